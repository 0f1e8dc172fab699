/- A table in memory. -/
import Derived.Test.YtfiibpgoplcgkaaGreatDoorG13SA
import Derived.Test.YtfiibpgoplcgkaaGreatDoorG23SA
import Derived.Test.YtfiibpgoplcgkaaGreatDoorG11SA
import Derived.ArgAppend
set_option linter.unusedVariables false
set_option linter.unusedSimpArgs false
set_option maxRecDepth 100000
set_option maxHeartbeats 12800000
namespace Go.Proofs.YtfiibpgoplcgkaaGreatDoor
variable {e:En}
section
open Go.RowKit
structure MemI(w:World)(m:Nat)(v:Value)(L:List En):Prop where
 blk:Blk w m 297 #[.bool true,v]
 row:w.ownsRow 0 165 3 v L.length (ecs L)
structure okM(L:List En):Prop where
 sort:q1E L
 ok: ∀x∈L,q3f x=true
 len:L.length<=50000
theorem okM.nil :okM []:=⟨List.Pairwise.nil,(fun x h=>by cases h),υ _⟩
theorem okM.add{L:List En}(h:okM L)(he:q3f e=true)(b:L.length<50000):okM (q3o e L):=
 ⟨z0b h.sort,y0K he h.ok,by have:=z5o (e:=e) (L:=L);omega⟩
section
variable {w w' w1 w2:World}{m:Nat}{v:Value}{L L1 L2:List En}
theorem MemI.same(h:MemI w m v L)(k: ∀i,(i=m\/v.ownBlock=some i)->w'.heap[i]? =w.heap[i]?):MemI w' m v L:=
 ⟨h.blk.same (k m (.inl rfl)),q0z h.row fun i b=>k i (.inr b)⟩
theorem MemI.lt(h:MemI w m v L){i:Nat}(b:i=m\/v.ownBlock=some i):i<w.heap.size:=by
 rcases b with rfl|b
 ·exact h.blk.lt
 ·exact(q0l h.row i b).2
theorem MemI.ext(h:MemI w m v L)(k:Ext w w'):MemI w' m v L:=h.same fun i b=>k.block i (h.lt b)
end
theorem z2U{w:World}{m:Nat}{v:Value}{L:List En}(h:MemI w m v L):Calls Tryz.prog 214 #[.pointer (some ⟨m,0,none⟩)] w fun e w'=>e= .returned (.bool false)/\w=w':=by
 have b:w.cell? ⟨m,0,none⟩=some (.bool true):=h.blk.cell 0;clear h;go_enter Tryz.func214,Tryz.ntmps214;go_wp2_with fail;go_ret;exact⟨rfl,rfl⟩
theorem q5n : ∀(L:List En) (j:Nat),(ecs L).take (j*3)=ecs (L.take j)
 |[],j=>by simp[ecs]
 |e::r,0=>by simp[ecs]
 | e::r,j+1=>by
  rw[List.take_succ_cons,q4r,q4r,<-q5n r j];have h:(ec e).length=3:=rfl;rw[show(j+1)*3=(ec e).length+j*3 by rw[h];omega,List.take_length_add_append]
theorem q7b : ∀(L:List En) (j:Nat),(ecs L).drop (j*3)=ecs (L.drop j)
 |[],j=>by simp[ecs]
 |e::r,0=>by simp[ecs]
 | e::r,j+1=>by
  rw[List.drop_succ_cons,q4r,<-q7b r j];have h:(ec e).length=3:=rfl;rw[show(j+1)*3=(ec e).length+j*3 by rw[h];omega,List.drop_length_add_append]
theorem q2w{P:Program}{w:World}{ops:Array Oper}{o:Oper}{a:Act}{K:Act->World->Prop}{Q:Exit->Act->World->Prop}{E:Prop}(V:o.guard=none)(s x:Operand)(t:TypeId)
  (ho:o.op= .call {callee:= .builtin .append,args:=#[s,x],argTypes:=#[t,t]})
  (e:TypeId)(z:Value)(size q:Nat)(Z:P.underlying t=some (.slice e))(G:(P.info? e).map (fun i=>(i.zero,i.size,i.bytes))=some (some z,size,q))
  (U:z.cells.size=size)(S:0<size)
  (ao:Option Addr)(n cap:Nat)(l:List Value)(hs:a.eval s= .slice ao n cap)(J:ao=none->n=0/\cap=0)(R:l.length=n*size)(M:Rd w ao l)
  (ad:Addr)(m c:Nat)(d:List Value)(hx:a.eval x= .slice (some ad) m c)(Y:d.length=m*size)(I:Rd w (some ad) d)(h1: ∀u∈d,u.oneCell'=true)
  (F:cap<n+m)(N:n+m<=maxLen)(r:(n+m)*q<=140737488355328)
  (h: ∀D w',w'.ownsRow w.heap.size e size D (n+m) (l++d)->w.grownBy w' none->K (a.put o.dst D) w'):
  if Region.wanted o (yielded ops a.tmps)=true then Oper.wp P o a w K Q else E:=by
 have hw:Region.wanted o (yielded ops a.tmps)=true:=by simp[Region.wanted,V]
 rw[ξ hw];obtain⟨i,X,hz,C,O⟩:=info_parts G;have y: ∀j u,d[j]? =some u->w.cell? (ad.add j)=some u:=fun j u W=>by
  obtain⟨b,off,e,hc⟩:=I j u W
  cases e;rw[Addr.add_lit];exact hc
 have B: ∃D w',(Builtin.append_ #[t,t] o.type #[.slice ao n cap,.slice (some ad) m c]).run P w= .ok D w'/\w'.ownsRow w.heap.size e size D (n+m) (l++d)/\w.grownBy w' none:=by
  cases ao with
  | some b=>exact run_append_arg_grows (P:=P) w t o.type e i z size q Z X hz C O U S b n cap l R (fun j u W=>by
    obtain⟨b',off,e,hc⟩:=M j u W
    cases e
    rw[Addr.add_lit];exact hc) ad m c d Y y F N r
  | none=>
   obtain⟨rfl,rfl⟩:=J rfl;obtain rfl:l=[]:=List.eq_nil_of_length_eq_zero (by simpa using R);obtain⟨D,w',B,r1,r2,_⟩:=run_append_own (P:=P) w w.heap.size t o.type e i z size q Z X hz C O U S (.slice none 0 0) 0 [] (World.ownsRow_nil w _ e size) ad m c d Y y h1 N r (ι _);exact⟨D,w',B,r1,r2⟩
 obtain⟨D,w',hr,h2,h3⟩:=B;unfold Oper.wp execOp;simp only[ho,resolve,invoke,builtin,Sem.run_bind,Sem.run_pure,Result.andThen_ok,List.map_toArray,List.map_cons,List.map_nil,hs,hx,hr];exact h D w' h2 h3
def y3A(w:World)(m:Nat)(v:Value)(L:List En)(e:En)(r:Ending)(w':World):Prop:=
 ∃v',r= .returned (.bool (!decide (e∈L)))/\MemI w' m v' (q3o e L)/\(v'=v\/ ∀i,v'.ownBlock=some i->w.heap.size<=i)/\OffS (fun i=>i=m) w w'
theorem y2M{w : World}{m:Nat}{v:Value}{L:List En}(h:MemI w m v L)(r0:okM L)(he:q3f e=true)(hl:L.length<50000):
  Calls Tryz.prog 153 #[.pointer (some ⟨m,0,none⟩),enV e] w (y3A w m v L e):=by
 have H0:=η h;have i1:=η r0;obtain⟨ao,cap,rfl,w0⟩:=Ens.of_own (Own.of_row h.row);have B0:Hd (∀i,q0n (L.getD i en0) e=decide (i<lbE L e)\/L.length<=i):=η fun i=>by
  rcases Nat.lt_or_ge i L.length with hi|hi
  ·left
   rw[δ,γ hi];exact q3s e r0.sort (γ hi)
  ·exact .inr hi
 have q0:Hd (e∈L↔ ∃h:lbE L e<L.length,L.getD (lbE L e) en0=e):=η (y2N r0.sort);have s0:Hd (e∉L->ecs (q3o e L)=ecs (L.take (lbE L e))++ec e++ecs (L.drop (lbE L e))/\(q3o e L).length=L.length+1):=η fun h=>by
  unfold q3o;have:=q4g L e;rw[κ h,q3J,q4r];exact⟨by simp,by rw[θ,χ,Θ,List.length_drop];omega⟩
 have E0:Hd (e∈L->q3o e L=L):=η fun h=>by unfold q3o;rw[ξ h]
 have Y0:=q4g L e;obtain⟨B,C,E⟩:=e;have N0:=y0r (L:=L) (B,C,E) (by unfold q3f at he;simp at he;show 0<=E;omega);show Calls _ _ #[_,.agg #[.int .u64 B,.int .i64 C,.int .i64 E]] _ _;have D0:=q0B w (.cells #[.int .u64 B,.int .i64 C,.int .i64 E] 165);have C0:=Blk.new w 165 #[.int .u64 B,.int .i64 C,.int .i64 E];have HN:=η (z2U (h.ext D0));have HS:=η (fun W (k:Ext w W)=>z0I B C W (w0.ext k) (by omega) r0.sort r0.ok);have o0:=η w0;have c1:(w.alloc (.cells #[.int .u64 B,.int .i64 C,.int .i64 E] 165)).cell? ⟨m,1,none⟩=some (.slice ao L.length cap):=(h.ext D0).blk.cell 1;have k0:(w.alloc (.cells #[.int .u64 B,.int .i64 C,.int .i64 E] 165)).cell? ⟨w.heap.size,0,none⟩=some (.int .u64 B):=C0.cell 0;have k1:(w.alloc (.cells #[.int .u64 B,.int .i64 C,.int .i64 E] 165)).cell? ⟨w.heap.size,1,none⟩=some (.int .i64 C):=C0.cell 1;have k2:(w.alloc (.cells #[.int .u64 B,.int .i64 C,.int .i64 E] 165)).cell? ⟨w.heap.size,2,none⟩=some (.int .i64 E):=C0.cell 2;have D:=η D0;have L0:=η (fun x W=>z1F x (B,C,E) W);clear h r0 he w0 D0 C0;generalize lbE L (B,C,E)=lb at*;generalize lbE L (B,C,0)=lb0 at*;obtain⟨n,hn⟩: ∃n,L.length=n:=⟨_,rfl⟩
 have b0:=η hn;rw[hn] at hl B0 q0 s0 Y0 HS o0 c1;go_enter Tryz.func153,Tryz.ntmps153;go_wp2_with fail;refine HN.o.mono ?_;rintro e w1 ⟨rfl,rfl⟩;go_wp2_with fail;obtain⟨w1,T0⟩: ∃w1,w.alloc (.cells #[.int .u64 B,.int .i64 C,.int .i64 E] 165)=w1:=⟨_,rfl⟩
 rw[T0] at c1 k0 k1 k2 D;simp only[T0];refine q0E (by kernel_rfl) (by kernel_rfl) ?_;have u1:=q0D c1;have y0:=q0D k0;have y1:=q0D k1;have y2:=q0D k2
 repeat (go_big_quiet_step (fail))
 go_big_quiet_step (exact Calls.quiet_ext (HS.o _ ((D.o).trans (ExtOf.h _))))
 repeat (go_big_quiet_step (fail))
 refine wpQuiet_nil ?_;intro w2 U0;have O0:=η U0;have C1:=η c1;have K0:=η k0;have K1:=η k1;have K2:=η k2;clear U0 c1 k0 k1 k2 u1 y0 y1 y2 HS HN;go_wp2_with fail
 go_loopw [5] (fun i W=> ∃j:Nat,i= .int .i64 (j:Int)/\j<=lb/\Ext w1 W) (fun i _=>lb-(intOf i).toNat)
 case atStart=>exact⟨lb0,rfl,N0,O0.o⟩
 case round =>
  obtain⟨j,rfl,hj,hb⟩:=hrel;have HB:=η hb;have a1:=q0A hb C1.o;have Q:=q0A hb K0.o;have Y:=q0A hb K1.o;have Z:=q0A hb K2.o;have q1:IntKind.i64.wrap ((j:Int)+1)=(j:Int)+1:=by rw[ν];omega
  have u1:=q0D a1;have u2:=q0D Q;have u3:=q0D Y;have u4:=q0D Z;by_cases Q0:j<lb
  ·have n0:j<n:=by omega
   have hd:decide ((j:Int)<(n:Int))=true:=ζ (by omega);have q5:(j:Int)<(n:Int):=by omega
   obtain⟨b,off,rfl,x0,x1,x2⟩:=(o0.o.ext (D.o.trans hb)).at n0;have z0:=q0D x0;have z1:=q0D x1;have z2:=q0D x2;have A0:q0n (L.getD j en0) (B,C,E)=true:=by
    rcases B0.o j with h|h
    ·rw[h,ζ Q0]
    ·omega
   generalize L.getD j en0=x at*;obtain⟨y1,y2,y3⟩:=x;have HL:Hd (∀W,Calls Tryz.prog 216 #[.agg #[.int .u64 y1,.int .i64 y2,.int .i64 y3],.agg #[.int .u64 B,.int .i64 C,.int .i64 E]] W fun r w'=>r= .returned (.bool true)/\Ext W w'):=η fun W=>by
    have h:=L0.o (y1,y2,y3) W;rw[A0] at h;exact h
   clear A0 hb;go_wp2_with fail;refine q0E (by kernel_rfl) (by kernel_rfl) ?_
   repeat (go_big_quiet_step (first|(go_at_call 216;exact Calls.quiet_ext (HL.o _))))
   refine wpQuiet_nil ?_;intro w3 l;have c0:=η (HB.o.trans l);clear l;go_wp2_with fail
   go_roundw
   case rel=>exact⟨j+1,by go_num,Q0,c0.o⟩
   case measure=>simp[intOf];omega
  ·obtain rfl : j=lb:=by omega
   by_cases p0:(B,C,E)∈L
   ·obtain⟨n0,m0⟩:=q0.o.1 p0
    have hd:decide ((j:Int)<(n:Int))=true:=ζ (by omega);have q5:(j:Int)<(n:Int):=by omega
    obtain⟨b,off,rfl,x0,x1,x2⟩:=(o0.o.ext (D.o.trans hb)).at n0;rw[m0] at x0 x1 x2;have b1:=η x0;have d1:=η x1;have f1:=η x2;have z0:=q0D x0;have z1:=q0D x1;have z2:=q0D x2;have HL:Hd (∀W,Calls Tryz.prog 216 #[.agg #[.int .u64 B,.int .i64 C,.int .i64 E],.agg #[.int .u64 B,.int .i64 C,.int .i64 E]] W fun r w'=>r= .returned (.bool false)/\Ext W w'):=η fun W=>by
     have h:=L0.o (B,C,E) W;rw[q0c] at h;exact h
    have P0:=η p0;clear hb m0 p0;go_wp2_with fail;refine q0E (by kernel_rfl) (by kernel_rfl) ?_
    repeat (go_big_quiet_step (first|(go_at_call 216;exact Calls.quiet_ext (HL.o _))))
    refine wpQuiet_nil ?_;intro w3 l;have c0:=η l;have a1:=q0A l a1;have Q:=q0A l Q;have Y:=q0A l Y;have Z:=q0A l Z;have x0:=q0A l x0;have x1:=q0A l x1;have x2:=q0A l x2;have u1:=q0D a1;have u2:=q0D Q;have u3:=q0D Y;have u4:=q0D Z;have z0:=q0D x0;have z1:=q0D x1;have z2:=q0D x2;clear l;go_wp2_with fail;refine q0E (by kernel_rfl) (by kernel_rfl) ?_
    repeat (go_big_quiet_step (fail))
    refine wpQuiet_nil ?_;intro G M;have J:=η (((D.o.trans HB.o).trans c0.o).trans M);clear M;go_wp2_with fail;go_ret;exact⟨_,by rw[ζ P0.o];rfl,by rw[E0.o P0.o];exact H0.o.ext J.o,.inl rfl,OffS.of_ext J.o⟩
   ·have V0 : (ao=none/\n=0/\cap=0)\/ ∃g,ao=some ⟨g,0,none⟩:=by
     rcases H0.o.row.2 with⟨hv,h0⟩|⟨g,c,j1,hv,_⟩
     ·injection hv with h1 h2 h3
      exact .inl ⟨h1,by rw[<-b0.o];exact h0,h3⟩
     ·injection hv with h1 h2 h3
      exact .inr ⟨g,h1⟩
    have S0:(decide ((j:Int)<(n:Int))=false/\j=n)\/(decide ((j:Int)<(n:Int))=true/\j<n/\L.getD j en0≠(B,C,E)/\q0n (L.getD j en0) (B,C,E)=false):=by
     by_cases n0:j<n
     ·refine .inr ⟨ζ (by omega),n0,fun h=>p0 (q0.o.2 ⟨n0,h⟩),?_⟩
      rcases B0.o j with h|h
      ·rw[h];exact ε (by omega)
      ·omega
     ·exact .inl ⟨ε (by omega),by omega⟩
    obtain⟨F0,G0⟩:=s0.o p0;have I0:=η F0;have J0:=η G0;have u0:=η p0;have t0:=η (fun W (k:Ext w W)=>o0.o.ext k);have Z0:=o0.o.fits;have X0:=o0.o.bound;have l1:(0:Int)<=(j:Int):=by omega
    have m1:(j:Int)<=(cap:Int):=by omega
    have n1:(j:Int)<=(n:Int):=by omega
    have o1:(n:Int)<=(cap:Int):=by omega
    have M0:Hd (∀W,Ext w W->W.cell? ⟨m,1,none⟩=some (.slice ao n cap)/\W.frozen? ⟨m,1,none⟩=false):=η fun W R=>by
     have h:=(H0.o.ext R).blk;have h1:=h.cell 1;rw[b0.o] at h1;exact⟨h1,h.free 1⟩
    clear F0 G0 p0 s0 q0 E0 B0;rcases V0 with⟨rfl,rfl,rfl⟩|⟨g,rfl⟩
    ·obtain rfl:j=0:=by omega
     have hd:decide (((0:Nat):Int)<((0:Nat):Int))=false:=by decide
     clear S0 hb;go_wp2_with fail;refine q0E (by kernel_rfl) (by kernel_rfl) ?_
     repeat (go_big_quiet_step (fail))
     refine wpQuiet_nil ?_;intro w3 l;have c0:=η l;have a1:=q0A l a1;have Q:=q0A l Q;have Y:=q0A l Y;have Z:=q0A l Z;have u1:=q0D a1;have u2:=q0D Q;have u3:=q0D Y;have u4:=q0D Z;clear l;go_wp2_with fail;refine q0E (by kernel_rfl) (by kernel_rfl) ?_
     repeat (go_big_quiet_step (fail))
     refine wpQuiet_nil ?_;intro G M;have J:=η (((D.o.trans HB.o).trans c0.o).trans M);have a1:=q0A M a1;have Q:=q0A M Q;have Y:=q0A M Y;have Z:=q0A M Z;clear M u1 u2 u3 u4;go_wp2_with fail;have HT:Hd (∀W,Ext G W->(W.cell? ⟨w.heap.size,0,none⟩=some (.int .u64 B)/\W.cell? ⟨w.heap.size,1,none⟩=some (.int .i64 C)/\W.cell? ⟨w.heap.size,2,none⟩=some (.int .i64 E))/\W.cell? ⟨m,1,none⟩=some (.slice none 0 0)/\W.frozen? ⟨m,1,none⟩=false):=η fun W R=>⟨⟨q0A R Q,q0A R Y,q0A R Z⟩,M0.o _ (J.o.trans R)⟩
     have g0:Hd (∀W,Ext G W->Rd W none (ecs L)):=η fun W R=>(t0.o _ (J.o.trans R)).rd
     have i0:Hd (∀W,Ext G W->Rd W none (ecs (L.drop 0))):=η fun W R=>by rw[List.drop_zero];exact g0.o W R
     have V:Hd (∀W,Hd (Ext G W)->(fun W=>((W.cell? ⟨w.heap.size,0,none⟩=some (.int .u64 B)/\W.cell? ⟨w.heap.size,1,none⟩=some (.int .i64 C)/\W.cell? ⟨w.heap.size,2,none⟩=some (.int .i64 E))/\W.cell? ⟨m,1,none⟩=some (.slice none 0 0))/\Hd (Ext G W)) W):=η fun W R=>⟨⟨(HT.o W R.o).1,(HT.o W R.o).2.1⟩,R⟩
     have j0:Hd (Ext G G.drew):=η (Ext.drew (Ext.refl _));clear a1 Q Y Z;refine q1U (fun W=>((W.cell? ⟨w.heap.size,0,none⟩=some (.int .u64 B)/\W.cell? ⟨w.heap.size,1,none⟩=some (.int .i64 C)/\W.cell? ⟨w.heap.size,2,none⟩=some (.int .i64 E))/\W.cell? ⟨m,1,none⟩=some (.slice none 0 0))/\Hd (Ext G W)) 18 (by kernel_rfl) (V.o _ j0) (fun d=>?_);refine q0W 0 d (fun d=>?_);refine q0W 1 d (fun d=>?_);refine q0W 2 d (fun d=>?_);refine q0W 3 d (fun d=>?_);refine q2x 4 d (fun d=>?_);refine q0W 5 d (fun d=>?_);refine q0W 6 d (fun d=>?_);refine q0W 7 d (fun d=>?_);refine q2x 8 d (fun d=>?_);refine q0W 11 d (fun d=>?_);refine q0W 12 d (fun d=>?_);refine q0W 13 d (fun d=>?_);refine q2x 14 d (fun d=>?_);refine q0W 15 d (fun d=>?_);refine q0W 16 d (fun d=>?_);simp only[Act.put,π,ψ,ω];refine q0e (i:=9) (by kernel_rfl) rfl (fun K hK=>?_)
     go_simp
     have D:Hd (Ext G (G.drew.alloc (.cells #[.int .u64 B,.int .i64 C,.int .i64 E] 165))):=η (j0.o.alloc _);refine hK.out _ _ (V.o _ D) (fun d=>?_);clear hK K
     try simp only[Act.put,π,ψ,ω]
     refine q0e (i:=10) (by kernel_rfl) rfl (fun K hK=>?_);refine q2w rfl (.tmp 62) (.tmp 64) 187 rfl 165 _ 3 24 Tryz.underlying187 Tryz.infoEnH (by decide) (by decide) none 0 0 (ecs (L.take 0)) rfl (fun h=>⟨rfl,rfl⟩) (by rw[q1g,Θ,b0.o];omega) (by rw[<-q5n];exact(g0.o _ D.o).take _) _ 1 1 (ec (B,C,E)) rfl rfl (Rd.lit _ _ _) (fun u hu=>q4D [(B,C,E)] u (by simpa [ecs] using hu)) (by omega) (by unfold maxLen;omega) (by omega) ?_;intro v1 x1 y s;have I:Hd (Ext G x1):=η ((D.o:Below G.heap.size G _).grown s D.o.size (fun q hq=>by cases hq));have X:=η (q1G y D.o.size);clear y s;refine hK.out _ _ (V.o _ I) (fun d=>?_);clear hK K
     try simp only[Act.put,π,ψ,ω]
     refine q0e (i:=17) (by kernel_rfl) rfl (fun K hK=>?_);refine q1w rfl (.tmp 65) (.tmp 71) 187 rfl G.heap.size 165 _ 3 24 Tryz.underlying187 Tryz.infoEnH (by decide) (by decide) v1 (0+1) (ecs (L.take 0)++ec (B,C,E)) rfl X.o _ _ _ (ecs (L.drop 0)) rfl (by(rw[q1g,List.length_drop,b0.o])<;>omega) (fun h=>rfl) (i0.o _ I.o) (q4D _) (by unfold maxLen;omega) (by omega) I.o.size ?_;intro v2 x2 y s m0;have N:Hd (Ext G x2):=η ((I.o:Below G.heap.size G _).grown s I.o.size (fun q hq=>(q0l X.o q hq).1));obtain⟨Q,c2,rfl⟩:=q0G y;have S:=η y;clear y s m0;refine hK.out _ _ (V.o _ N) (fun d=>?_);clear hK K
     try simp only[Act.put,π,ψ,ω]
     refine q1k (by kernel_rfl) ?_
     try simp only[List.drop_succ_cons,List.drop_zero]
     clear d;obtain⟨⟨qa,qb,qc⟩,qd,qe⟩:=HT.o _ N.o;have l0:=H0.o.ext (J.o.trans N.o);have O:=q1G S.o (υ _);rw[<-I0.o] at O;have U:0+1+0=(q3o (B,C,E) L).length:=by have:=J0.o;omega
     have e0:=η U;have a0:(Value.slice Q (0+1+0) c2).ownBlock≠some m:=fun hh=>by have h1:=(q0l S.o m hh).1;have h2:=H0.o.blk.lt;have h3:=J.o.size;omega
     have d0:Hd (∀z,z=(q3o (B,C,E) L).length->MemI (x2.setCell ⟨m,1,none⟩ (.slice Q z c2)) m (.slice Q z c2) (q3o (B,C,E) L)):=η fun z hz=>by
      subst hz;refine⟨l0.blk.set 1 _,?_⟩;rw[U] at O a0;exact q1D O _ a0
     have f0:=η (fun i (hi:(Value.slice Q (0+1+0) c2).ownBlock=some i)=>Ω J.o.size (q0l S.o i hi).1);have v0:=η (J.o.trans N.o);clear l0 O U a0;go_wp2_with fail
     all_goals
      go_ret;refine⟨_,by rw[ε u0.o];rfl,d0.o _ e0.o,.inr ?_,(OffS.of_ext v0.o).trans (OffS.set (F:=fun i=>i=m) _ rfl _ _)⟩;exact f0.o
    ·rcases S0 with⟨hd,rfl⟩|⟨hd,n0,R0,A0⟩
     ·clear hb
      go_wp2_with fail;refine q0E (by kernel_rfl) (by kernel_rfl) ?_
      repeat (go_big_quiet_step (fail))
      refine wpQuiet_nil ?_;intro w3 l;have c0:=η l;have a1:=q0A l a1;have Q:=q0A l Q;have Y:=q0A l Y;have Z:=q0A l Z;have u1:=q0D a1;have u2:=q0D Q;have u3:=q0D Y;have u4:=q0D Z;clear l;go_wp2_with fail;refine q0E (by kernel_rfl) (by kernel_rfl) ?_
      repeat (go_big_quiet_step (fail))
      refine wpQuiet_nil ?_;intro G M;have J:=η (((D.o.trans HB.o).trans c0.o).trans M);have a1:=q0A M a1;have Q:=q0A M Q;have Y:=q0A M Y;have Z:=q0A M Z;clear M u1 u2 u3 u4;go_wp2_with fail;have HT:Hd (∀W,Ext G W->(W.cell? ⟨w.heap.size,0,none⟩=some (.int .u64 B)/\W.cell? ⟨w.heap.size,1,none⟩=some (.int .i64 C)/\W.cell? ⟨w.heap.size,2,none⟩=some (.int .i64 E))/\W.cell? ⟨m,1,none⟩=some (.slice (some ⟨g,0,none⟩) j cap)/\W.frozen? ⟨m,1,none⟩=false):=η fun W R=>⟨⟨q0A R Q,q0A R Y,q0A R Z⟩,M0.o _ (J.o.trans R)⟩
      have g0:Hd (∀W,Ext G W->Rd W (some ⟨g,0,none⟩) (ecs L)):=η fun W R=>(t0.o _ (J.o.trans R)).rd
      have i0:Hd (∀W,Ext G W->Rd W (if cap=j then some ⟨g,0,none⟩ else some ⟨g,j*3,none⟩) (ecs (L.drop j))):=η fun W R=>by
       split
       ·rw[List.drop_of_length_le (by rw[b0.o];omega)]
        exact Rd.nil _ _
       ·have h:=(g0.o W R).drop (j*3)
        rw[q7b,Nat.zero_add] at h;exact h
      have V:Hd (∀W,Hd (Ext G W)->(fun W=>((W.cell? ⟨w.heap.size,0,none⟩=some (.int .u64 B)/\W.cell? ⟨w.heap.size,1,none⟩=some (.int .i64 C)/\W.cell? ⟨w.heap.size,2,none⟩=some (.int .i64 E))/\W.cell? ⟨m,1,none⟩=some (.slice (some ⟨g,0,none⟩) j cap))/\Hd (Ext G W)) W):=η fun W R=>⟨⟨(HT.o W R.o).1,(HT.o W R.o).2.1⟩,R⟩
      have j0:Hd (Ext G G.drew):=η (Ext.drew (Ext.refl _));clear a1 Q Y Z;refine q1U (fun W=>((W.cell? ⟨w.heap.size,0,none⟩=some (.int .u64 B)/\W.cell? ⟨w.heap.size,1,none⟩=some (.int .i64 C)/\W.cell? ⟨w.heap.size,2,none⟩=some (.int .i64 E))/\W.cell? ⟨m,1,none⟩=some (.slice (some ⟨g,0,none⟩) j cap))/\Hd (Ext G W)) 18 (by kernel_rfl) (V.o _ j0) (fun d=>?_);refine q0W 0 d (fun d=>?_);refine q0W 1 d (fun d=>?_);refine q0W 2 d (fun d=>?_);refine q0W 3 d (fun d=>?_);refine q2x 4 d (fun d=>?_);refine q0W 5 d (fun d=>?_);refine q0W 6 d (fun d=>?_);refine q0W 7 d (fun d=>?_);refine q2x 8 d (fun d=>?_);refine q0W 11 d (fun d=>?_);refine q0W 12 d (fun d=>?_);refine q0W 13 d (fun d=>?_);refine q2x 14 d (fun d=>?_);refine q0W 15 d (fun d=>?_);refine q0W 16 d (fun d=>?_);simp only[Act.put,π,ψ,ω];refine q0e (i:=9) (by kernel_rfl) rfl (fun K hK=>?_)
      go_simp
      have D:Hd (Ext G (G.drew.alloc (.cells #[.int .u64 B,.int .i64 C,.int .i64 E] 165))):=η (j0.o.alloc _);refine hK.out _ _ (V.o _ D) (fun d=>?_);clear hK K
      try simp only[Act.put,π,ψ,ω]
      refine q0e (i:=10) (by kernel_rfl) rfl (fun K hK=>?_);refine q2w rfl (.tmp 62) (.tmp 64) 187 rfl 165 _ 3 24 Tryz.underlying187 Tryz.infoEnH (by decide) (by decide) (some ⟨g,0,none⟩) j j (ecs (L.take j)) rfl (fun h=>by cases h) (by rw[q1g,Θ,b0.o];omega) (by rw[<-q5n];exact(g0.o _ D.o).take _) _ 1 1 (ec (B,C,E)) rfl rfl (Rd.lit _ _ _) (fun u hu=>q4D [(B,C,E)] u (by simpa [ecs] using hu)) (by omega) (by unfold maxLen;omega) (by omega) ?_;intro v1 x1 y s;have I:Hd (Ext G x1):=η ((D.o:Below G.heap.size G _).grown s D.o.size (fun q hq=>by cases hq));have X:=η (q1G y D.o.size);clear y s;refine hK.out _ _ (V.o _ I) (fun d=>?_);clear hK K
      try simp only[Act.put,π,ψ,ω]
      refine q0e (i:=17) (by kernel_rfl) rfl (fun K hK=>?_);refine q1w rfl (.tmp 65) (.tmp 71) 187 rfl G.heap.size 165 _ 3 24 Tryz.underlying187 Tryz.infoEnH (by decide) (by decide) v1 (j+1) (ecs (L.take j)++ec (B,C,E)) rfl X.o _ _ _ (ecs (L.drop j)) rfl (by(rw[q1g,List.length_drop,b0.o])<;>omega) (fun h=>by split at h<;>cases h) (i0.o _ I.o) (q4D _) (by unfold maxLen;omega) (by omega) I.o.size ?_;intro v2 x2 y s m0;have N:Hd (Ext G x2):=η ((I.o:Below G.heap.size G _).grown s I.o.size (fun q hq=>(q0l X.o q hq).1));obtain⟨Q,c2,rfl⟩:=q0G y;have S:=η y;clear y s m0;refine hK.out _ _ (V.o _ N) (fun d=>?_);clear hK K
      try simp only[Act.put,π,ψ,ω]
      refine q1k (by kernel_rfl) ?_
      try simp only[List.drop_succ_cons,List.drop_zero]
      clear d;obtain⟨⟨qa,qb,qc⟩,qd,qe⟩:=HT.o _ N.o;have l0:=H0.o.ext (J.o.trans N.o);have O:=q1G S.o (υ _);rw[<-I0.o] at O;have U:j+1+0=(q3o (B,C,E) L).length:=by have:=J0.o;omega
      have e0:=η U;have a0:(Value.slice Q (j+1+0) c2).ownBlock≠some m:=fun hh=>by have h1:=(q0l S.o m hh).1;have h2:=H0.o.blk.lt;have h3:=J.o.size;omega
      have d0:Hd (∀z,z=(q3o (B,C,E) L).length->MemI (x2.setCell ⟨m,1,none⟩ (.slice Q z c2)) m (.slice Q z c2) (q3o (B,C,E) L)):=η fun z hz=>by
       subst hz;refine⟨l0.blk.set 1 _,?_⟩;rw[U] at O a0;exact q1D O _ a0
      have f0:=η (fun i (hi:(Value.slice Q (j+1+0) c2).ownBlock=some i)=>Ω J.o.size (q0l S.o i hi).1);have v0:=η (J.o.trans N.o);clear l0 O U a0;go_wp2_with fail
      all_goals
       go_ret;refine⟨_,by rw[ε u0.o];rfl,d0.o _ e0.o,.inr ?_,(OffS.of_ext v0.o).trans (OffS.set (F:=fun i=>i=m) _ rfl _ _)⟩;exact f0.o
     ·obtain⟨b,off,W0,x0,x1,x2⟩:=(o0.o.ext (D.o.trans hb)).at n0
      cases W0;rw[Nat.zero_add] at x0 x1 x2;have q5:(j:Int)<(n:Int):=by omega
      generalize L.getD j en0=x at*;obtain⟨y1,y2,y3⟩:=x;have z0:=q0D x0;have z1:=q0D x1;have z2:=q0D x2;have HL:Hd (∀W,Calls Tryz.prog 216 #[.agg #[.int .u64 y1,.int .i64 y2,.int .i64 y3],.agg #[.int .u64 B,.int .i64 C,.int .i64 E]] W fun r w'=>r= .returned (.bool false)/\Ext W w'):=η fun W=>by
       have h:=L0.o (y1,y2,y3) W;rw[A0] at h;exact h
      have h3:(¬y1=B)\/(B=y1/\¬y2=C)\/(B=y1/\C=y2/\¬y3=E):=by
       by_cases g1:y1=B
       ·by_cases g2:y2=C
        ·by_cases g3:y3=E
         ·exact absurd (by rw[g1,g2,g3]) R0
         ·exact .inr (.inr ⟨g1.symm,g2.symm,g3⟩)
        ·exact .inr (.inl ⟨g1.symm,g2⟩)
       ·exact .inl g1
      clear R0 A0 hb;rcases h3 with h3|⟨rfl,h3⟩|⟨rfl,rfl,h3⟩
      all_goals
       go_wp2_with fail;refine q0E (by kernel_rfl) (by kernel_rfl) ?_
       repeat (go_big_quiet_step (first|(go_at_call 216;exact Calls.quiet_ext (HL.o _))))
       refine wpQuiet_nil ?_;intro w3 l;have c0:=η l;have a1:=q0A l a1;have Q:=q0A l Q;have Y:=q0A l Y;have Z:=q0A l Z;have x0:=q0A l x0;have x1:=q0A l x1;have x2:=q0A l x2;have u1:=q0D a1;have u2:=q0D Q;have u3:=q0D Y;have u4:=q0D Z;have z0:=q0D x0;have z1:=q0D x1;have z2:=q0D x2;clear l;go_wp2_with fail;refine q0E (by kernel_rfl) (by kernel_rfl) ?_
       repeat (go_big_quiet_step (fail))
       refine wpQuiet_nil ?_;intro G M;have J:=η (((D.o.trans HB.o).trans c0.o).trans M);have a1:=q0A M a1;have Q:=q0A M Q;have Y:=q0A M Y;have Z:=q0A M Z;clear M u1 u2 u3 u4 x0 x1 x2 z0 z1 z2;go_wp2_with fail;have HT:Hd (∀W,Ext G W->(W.cell? ⟨w.heap.size,0,none⟩=some (.int .u64 B)/\W.cell? ⟨w.heap.size,1,none⟩=some (.int .i64 C)/\W.cell? ⟨w.heap.size,2,none⟩=some (.int .i64 E))/\W.cell? ⟨m,1,none⟩=some (.slice (some ⟨g,0,none⟩) n cap)/\W.frozen? ⟨m,1,none⟩=false):=η fun W R=>⟨⟨q0A R Q,q0A R Y,q0A R Z⟩,M0.o _ (J.o.trans R)⟩
       have g0:Hd (∀W,Ext G W->Rd W (some ⟨g,0,none⟩) (ecs L)):=η fun W R=>(t0.o _ (J.o.trans R)).rd
       have i0:Hd (∀W,Ext G W->Rd W (if cap=j then some ⟨g,0,none⟩ else some ⟨g,j*3,none⟩) (ecs (L.drop j))):=η fun W R=>by
        split
        ·rw[List.drop_of_length_le (by rw[b0.o];omega)]
         exact Rd.nil _ _
        ·have h:=(g0.o W R).drop (j*3)
         rw[q7b,Nat.zero_add] at h;exact h
       have V:Hd (∀W,Hd (Ext G W)->(fun W=>((W.cell? ⟨w.heap.size,0,none⟩=some (.int .u64 B)/\W.cell? ⟨w.heap.size,1,none⟩=some (.int .i64 C)/\W.cell? ⟨w.heap.size,2,none⟩=some (.int .i64 E))/\W.cell? ⟨m,1,none⟩=some (.slice (some ⟨g,0,none⟩) n cap))/\Hd (Ext G W)) W):=η fun W R=>⟨⟨(HT.o W R.o).1,(HT.o W R.o).2.1⟩,R⟩
       have j0:Hd (Ext G G.drew):=η (Ext.drew (Ext.refl _));clear a1 Q Y Z;refine q1U (fun W=>((W.cell? ⟨w.heap.size,0,none⟩=some (.int .u64 B)/\W.cell? ⟨w.heap.size,1,none⟩=some (.int .i64 C)/\W.cell? ⟨w.heap.size,2,none⟩=some (.int .i64 E))/\W.cell? ⟨m,1,none⟩=some (.slice (some ⟨g,0,none⟩) n cap))/\Hd (Ext G W)) 18 (by kernel_rfl) (V.o _ j0) (fun d=>?_);refine q0W 0 d (fun d=>?_);refine q0W 1 d (fun d=>?_);refine q0W 2 d (fun d=>?_);refine q0W 3 d (fun d=>?_);refine q2x 4 d (fun d=>?_);refine q0W 5 d (fun d=>?_);refine q0W 6 d (fun d=>?_);refine q0W 7 d (fun d=>?_);refine q2x 8 d (fun d=>?_);refine q0W 11 d (fun d=>?_);refine q0W 12 d (fun d=>?_);refine q0W 13 d (fun d=>?_);refine q2x 14 d (fun d=>?_);refine q0W 15 d (fun d=>?_);refine q0W 16 d (fun d=>?_);simp only[Act.put,π,ψ,ω];refine q0e (i:=9) (by kernel_rfl) rfl (fun K hK=>?_)
       go_simp
       have D:Hd (Ext G (G.drew.alloc (.cells #[.int .u64 B,.int .i64 C,.int .i64 E] 165))):=η (j0.o.alloc _);refine hK.out _ _ (V.o _ D) (fun d=>?_);clear hK K
       try simp only[Act.put,π,ψ,ω]
       refine q0e (i:=10) (by kernel_rfl) rfl (fun K hK=>?_);refine q2w rfl (.tmp 62) (.tmp 64) 187 rfl 165 _ 3 24 Tryz.underlying187 Tryz.infoEnH (by decide) (by decide) (some ⟨g,0,none⟩) j j (ecs (L.take j)) rfl (fun h=>by cases h) (by rw[q1g,Θ,b0.o];omega) (by rw[<-q5n];exact(g0.o _ D.o).take _) _ 1 1 (ec (B,C,E)) rfl rfl (Rd.lit _ _ _) (fun u hu=>q4D [(B,C,E)] u (by simpa [ecs] using hu)) (by omega) (by unfold maxLen;omega) (by omega) ?_;intro v1 x1 y s;have I:Hd (Ext G x1):=η ((D.o:Below G.heap.size G _).grown s D.o.size (fun q hq=>by cases hq));have X:=η (q1G y D.o.size);clear y s;refine hK.out _ _ (V.o _ I) (fun d=>?_);clear hK K
       try simp only[Act.put,π,ψ,ω]
       refine q0e (i:=17) (by kernel_rfl) rfl (fun K hK=>?_);refine q1w rfl (.tmp 65) (.tmp 71) 187 rfl G.heap.size 165 _ 3 24 Tryz.underlying187 Tryz.infoEnH (by decide) (by decide) v1 (j+1) (ecs (L.take j)++ec (B,C,E)) rfl X.o _ _ _ (ecs (L.drop j)) rfl (by(rw[q1g,List.length_drop,b0.o])<;>omega) (fun h=>by split at h<;>cases h) (i0.o _ I.o) (q4D _) (by unfold maxLen;omega) (by omega) I.o.size ?_;intro v2 x2 y s m0;have N:Hd (Ext G x2):=η ((I.o:Below G.heap.size G _).grown s I.o.size (fun q hq=>(q0l X.o q hq).1));obtain⟨Q,c2,rfl⟩:=q0G y;have S:=η y;clear y s m0;refine hK.out _ _ (V.o _ N) (fun d=>?_);clear hK K
       try simp only[Act.put,π,ψ,ω]
       refine q1k (by kernel_rfl) ?_
       try simp only[List.drop_succ_cons,List.drop_zero]
       clear d;obtain⟨⟨qa,qb,qc⟩,qd,qe⟩:=HT.o _ N.o;have l0:=H0.o.ext (J.o.trans N.o);have O:=q1G S.o (υ _);rw[<-I0.o] at O;have U:j+1+(n-j)=(q3o (B,C,E) L).length:=by have:=J0.o;omega
       have e0:=η U;have a0:(Value.slice Q (j+1+(n-j)) c2).ownBlock≠some m:=fun hh=>by have h1:=(q0l S.o m hh).1;have h2:=H0.o.blk.lt;have h3:=J.o.size;omega
       have d0:Hd (∀z,z=(q3o (B,C,E) L).length->MemI (x2.setCell ⟨m,1,none⟩ (.slice Q z c2)) m (.slice Q z c2) (q3o (B,C,E) L)):=η fun z hz=>by
        subst hz;refine⟨l0.blk.set 1 _,?_⟩;rw[U] at O a0;exact q1D O _ a0
       have f0:=η (fun i (hi:(Value.slice Q (j+1+(n-j)) c2).ownBlock=some i)=>Ω J.o.size (q0l S.o i hi).1);have v0:=η (J.o.trans N.o);clear l0 O U a0;go_wp2_with fail
       all_goals
        go_ret;refine⟨_,by rw[ε u0.o];rfl,d0.o _ e0.o,.inr ?_,(OffS.of_ext v0.o).trans (OffS.set (F:=fun i=>i=m) _ rfl _ _)⟩;exact f0.o
theorem z9N{w:World}{m:Nat}{v:Value}{L:List En}(hm:MemI w m v L)(d:okM L)(h a b:Int):
  Calls Tryz.prog 179 #[.pointer (some ⟨m,0,none⟩),.int .u64 h,.int .i64 a,.int .i64 b] w fun r w'=> ∃v,r= .returned v/\w'.ownsRow w.heap.size 165 3 v (q0u L h a b).length (ecs (q0u L h a b))/\Ext w w':=by
 have u:=η (z2U hm);have y:w.cell? ⟨m,1,none⟩=some v:=hm.blk.cell 1;obtain⟨ao,cap,rfl,i⟩:=Ens.of_own (Own.of_row hm.row);have s:=η (z8o h a b w i (by have:=d.len;omega) d.sort d.ok);clear hm i d;generalize q0u L h a b=R at*;go_enter Tryz.func179,Tryz.ntmps179;go_wp2_with fail;refine u.o.mono ?_;rintro e w1 ⟨rfl,rfl⟩;go_wp2_with fail;refine s.o.mono ?_;rintro e w1 ⟨v,rfl,l,j⟩;have x:=η l;have q:=η j;clear l j;go_wp2_with fail;go_ret;exact⟨_,rfl,x.o,q.o⟩
theorem y1C{w:World}{m:Nat}{v:Value}{L:List En}(hm:MemI w m v L)(d:okM L)(h a:Int):
  Calls Tryz.prog 166 #[.pointer (some ⟨m,0,none⟩),.int .u64 h,.int .i64 a] w fun r w'=>r= .returned (.tuple #[enV ((q3H L h a).getD en0),.bool (q3H L h a).isSome])/\Ext w w':=by
 have E:=η (fun W (k:Ext w W)=>z2U (hm.ext k));have F:(w.alloc (.cells #[.int .u64 0,.int .i64 0,.int .i64 0] 165)).cell? ⟨m,1,none⟩=some v:=(hm.ext (q0B w _)).blk.cell 1;obtain⟨ao,cap,rfl,i⟩:=Ens.of_own (Own.of_row hm.row);have l:=η (fun W (k:Ext w W)=>y0e h a W (i.ext k) (by have:=d.len;omega) d.sort d.ok);have j:=η (Blk.new w 165 #[.int .u64 0,.int .i64 0,.int .i64 0]);have s:=η (q0B w (.cells #[.int .u64 0,.int .i64 0,.int .i64 0] 165));clear hm i d;generalize (q3H L h a).getD en0=y at*;generalize (q3H L h a).isSome=q at*;obtain⟨x,B,C⟩:=y;have l:Hd (∀W (k:Ext w W),Calls Tryz.prog 223 #[.slice ao L.length cap,.int .u64 h,.int .i64 a] W fun r w'=>r= .returned (.tuple #[.agg #[.int .u64 x,.int .i64 B,.int .i64 C],.bool q])/\Ext W w'):=l;go_enter Tryz.func166,Tryz.ntmps166;go_wp2_with fail;refine(E.o _ s.o).mono ?_;rintro e w1 ⟨rfl,rfl⟩;go_wp2_with fail;refine(l.o _ s.o).mono ?_;rintro e w1 ⟨rfl,u⟩;have D:=η (s.o.trans u);have b:=j.o.ext u;have k0:w1.cell? ⟨w.heap.size,0,none⟩=some (.int .u64 0):=b.cell 0;have k1:w1.cell? ⟨w.heap.size,1,none⟩=some (.int .i64 0):=b.cell 1;have M:w1.cell? ⟨w.heap.size,2,none⟩=some (.int .i64 0):=b.cell 2;have G:w1.frozen? ⟨w.heap.size,0,none⟩=false:=b.free 0;have I:w1.frozen? ⟨w.heap.size,1,none⟩=false:=b.free 1;have J:w1.frozen? ⟨w.heap.size,2,none⟩=false:=b.free 2;clear u b;go_wp2_with fail
 ((try simp only[Exit.inBlock,Exit.then]);refine bodyPost_ret (v:= .tuple #[.agg #[.int .u64 x,.int .i64 B,.int .i64 C],.bool q]) (by rw[results_cell_tmp rfl];go_simp) rfl ?_)
 exact⟨rfl,q8W D.o⟩
theorem y2S(w:World):Calls Tryz.prog 201 #[] w fun r w'=> ∃m,r= .returned (.pointer (some ⟨m,0,none⟩))/\MemI w' m (.slice none 0 0) []/\w.heap.size<=m/\Ext w w':=by
 have b:Hd (MemI (w.alloc (.cells #[.bool true,.slice none 0 0] 297)) w.heap.size (.slice none 0 0) []):=η ⟨Blk.new _ _ _,World.ownsRow_nil _ _ _ _⟩;have d:=η (q0B w (.cells #[.bool true,.slice none 0 0] 297));go_enter Tryz.func201,Tryz.ntmps201;go_wp2_with fail;go_ret;exact⟨_,rfl,b.o,ι _,d.o⟩
end
end Go.Proofs.YtfiibpgoplcgkaaGreatDoor
