/- Walks. -/
import Derived.Test.YtfiibpgoplcgkaaGreatDoorG14WS
import Derived.Test.YtfiibpgoplcgkaaGreatDoorG10WS
import Derived.Test.YtfiibpgoplcgkaaGreatDoorG19WS
set_option linter.unusedVariables false
set_option linter.unusedSimpArgs false
set_option maxRecDepth 100000
set_option maxHeartbeats 6400000
namespace Go.Proofs.YtfiibpgoplcgkaaGreatDoor
variable {X W' w:World}{t e:TypeId}{ao:Option Addr}{n cap B:Nat}{L:List (En×Nat)}{v:Value}
section
open Go.RowKit
def q7W(s:List UInt8):Value:=match z1D s with
 |none=> .tuple #[enV en0,.bool false]
 |some e=> .tuple #[enV e,.bool true]
theorem q1D{fn:Func}{p u:Tmp}{ty:TypeId}(h:fn.results=#[.cell p ty,.tmp u])(tmps:Array Value)(P:Program)(w:World):
  (results fn tmps).run P w=
   ((asAddr (tmps.getD p undef)).run P w).andThen fun a w₁=>((loadVar ty a).run P w₁).andThen fun v b=> .ok (.tuple #[v,tmps.getD u undef]) b:=by
 simp only[results,h];simp[Sem.run_bind,Result.andThen]
theorem q6h{cs:Array Value}(h:Ext (X.alloc (.cells cs t)) W'):Blk W' X.heap.size t cs:=(Blk.new X t cs).ext h
theorem z2i{cs:Array Value}(h:Ext (X.alloc (.cells cs t)).drew W'):Blk W' X.heap.size t cs:=(show Blk (X.alloc (.cells cs t)).drew X.heap.size t cs from Blk.new X t cs).ext h
theorem z0T(s : List UInt8)(w:World)(hl:s.length<=4611686018427387903):Calls Tryz.prog 281 #[.string ⟨s.toArray⟩] w fun r w'=>r= .returned (q7W s)/\Ext w w':=by
 have S:=Blk.new w 165 #[.int .u64 0,.int .i64 0,.int .i64 0];by_cases C:s.length=24
 case neg=>
  have HM:Hd (q7W s= .tuple #[.agg #[.int .u64 0,.int .i64 0,.int .i64 0],.bool false]):=η (by unfold q7W z1D;rw[κ (fun h=>C h.1)];rfl);have hn:((s.length:Int) !=24)=true:=by simp;omega
  go_enter Tryz.func281,Tryz.ntmps281;go_wp2_with fail
  ((try simp only[Exit.inBlock,Exit.then]);refine bodyPost_ret (v:= .tuple #[.agg #[_,_,_],_]) (by rw[results_cell_tmp rfl];go_simp;exact⟨⟨rfl,rfl,rfl⟩,rfl⟩) rfl ?_)
  rw[HM.o];exact⟨rfl,q0C _ _⟩
 obtain⟨X,J⟩: ∃X,s.take 8=X:=⟨_,rfl⟩
 obtain⟨Y,M⟩: ∃Y,(s.drop 8).take 8=Y:=⟨_,rfl⟩
 obtain⟨Z,N⟩: ∃Z,s.drop 16=Z:=⟨_,rfl⟩
 have lX:X.length=8:=by rw[<-J];simp;omega
 have lY:Y.length=8:=by rw[<-M];simp;omega
 have lZ:Z.length=8:=by rw[<-N];simp;omega
 have sX:=q4l s 8 8 rfl (by omega);have sY:=q3B s 8 16 8 16 rfl rfl (by omega) (by omega) (X:=Y) (by rw[<-M];exact q6I s 8 8);have sZ:=q3a s 16 16 rfl (by omega);rw[J] at sX;rw[N] at sZ;have uX:(q1W (X.take 8):Int)=(q1W X:Int):=by rw[Δ (by omega)]
 have uY:(q1W (Y.take 8):Int)=(q1W Y:Int):=by rw[Δ (by omega)]
 have uZ:(q1W (Z.take 8):Int)=(q1W Z:Int):=by rw[Δ (by omega)]
 have bX:=q2R X;have bY:=q2R Y;have bZ:=q2R Z;rw[lX] at bX;rw[lY] at bY;rw[lZ] at bZ;have E:z1D s=if q1W Y<=9223372036854775807/\q1W Z<=9223372036854775807 then some ((q1W X:Int),(q1W Y:Int),(q1W Z:Int)) else none:=by
  unfold z1D;rw[J,M,N];by_cases hc:q1W Y<=9223372036854775807/\q1W Z<=9223372036854775807
  ·rw[ξ ⟨C,hc⟩,ξ hc]
  ·rw[κ (fun h=>hc h.2),κ hc]
 obtain⟨x,hx⟩: ∃x:Int,(q1W X:Int)=x:=⟨_,rfl⟩
 obtain⟨y,hy⟩: ∃y:Int,IntKind.i64.wrap (q1W Y:Int)=y:=⟨_,rfl⟩
 obtain⟨z,hz⟩: ∃z:Int,IntKind.i64.wrap (q1W Z:Int)=z:=⟨_,rfl⟩
 have G:=hy;have I:=hz;rw[ν] at G I;have a0:(q1W Y<=9223372036854775807/\y=(q1W Y:Int)/\0<=y)\/(9223372036854775807<q1W Y/\y<0):=by
  rcases Nat.lt_or_ge 9223372036854775807 (q1W Y) with h|h
  ·right;omega
  ·left;omega
 have c0:(q1W Z<=9223372036854775807/\z=(q1W Z:Int)/\0<=z)\/(9223372036854775807<q1W Z/\z<0):=by
  rcases Nat.lt_or_ge 9223372036854775807 (q1W Z) with h|h
  ·right;omega
  ·left;omega
 have HV:Hd (q7W s=if 0<=y/\0<=z then .tuple #[.agg #[.int .u64 x,.int .i64 y,.int .i64 z],.bool true] else .tuple #[.agg #[.int .u64 0,.int .i64 0,.int .i64 0],.bool false]):=η (by
  unfold q7W;rw[E];by_cases hc:q1W Y<=9223372036854775807/\q1W Z<=9223372036854775807
  ·rw[ξ hc,ξ (by omega)]
   rw[hx,show(q1W Y:Int)=y by omega,show(q1W Z:Int)=z by omega]
   rfl
  ·rw[κ hc,κ (by omega)]
   rfl)
 rw[hx] at uX;have UX:=η uX;generalize (q1W Y:Int)=uy at*;generalize (q1W Z:Int)=uz at*;have Q:Hd (∀W,Ext (w.alloc (.cells #[.int .u64 0,.int .i64 0,.int .i64 0] 165)) W->Ext w W):=η fun W h=>(q0C w _).trans h
 obtain⟨w0,V⟩: ∃w0,w.alloc (.cells #[.int .u64 0,.int .i64 0,.int .i64 0] 165)=w0:=⟨_,rfl⟩
 have f0:((s.length:Int) !=24)=false:=by simp;omega
 have UY:=η uY;have UZ:=η uZ;have LX:X.length<=9223372036854775807:=by omega
 have LY:Y.length<=9223372036854775807:=by omega
 have LZ:Z.length<=9223372036854775807:=by omega
 clear uX uY uZ J M N lX lY lZ bX bY bZ E hx G I a0 c0 V S;go_enter Tryz.func281,Tryz.ntmps281;go_wp2_with fail;have i:=η (Ext.refl (w.alloc (.cells #[.int .u64 0,.int .i64 0,.int .i64 0] 165)))
 go_region_law
  (go_simp; (go_at_call 131;refine(z0S _ _ (by assumption)).mono ?_;rintro e O ⟨rfl,d⟩;(first|rw[UX.o]|rw[UY.o]|rw[UZ.o]);
             (first
             |(have hc:=Ext.trans i.o d;(first|(replace b:=b.ext d)|skip))
             |(have hc:=Ext.trans i.o.drew d;(first|(replace b:=b.ext d)|skip))
             |(have hc:=Ext.trans (i.o.alloc _) d;have b:=q6h d;have hq:=i.o.size)
             |(have hc:=Ext.trans (i.o.alloc _).drew d;have b:=z2i d;have hq:=i.o.size)
             |(have hc:=Ext.trans (i.o.drew.alloc _) d;have b:=q6h d;have hq:=i.o.size));
             replace i:=η hc;have l:=q6h hc;have r0:_=some (Value.int .u64 0):=l.cell 0;have r1:_=some (Value.int .i64 0):=l.cell 1;have r2:_=some (Value.int .i64 0):=l.cell 2;have y0:=l.free 0;have y1:=l.free 1;have y2:=l.free 2;have hs:=hc.size;rw[ρ] at hs;
             (try rw[ρ] at hq);(try (first|rw[ρ] at b|skip;have k0:_=some (Value.int .u64 0):=b.cell 0;have k1:_=some (Value.int .i64 0):=b.cell 1;have k2:_=some (Value.int .i64 0):=b.cell 2;have z0:=b.free 0;have z1:=b.free 1;have z2:=b.free 2));clear d hc))
 all_goals
  have j:Hd (q7W s=if 0<=y/\0<=z then .tuple #[.agg #[.int .u64 x,.int .i64 y,.int .i64 z],.bool true] else .tuple #[.agg #[.int .u64 0,.int .i64 0,.int .i64 0],.bool false]):=HV;have R:=η (Q.o _ i.o);have u:=l.ext (q0C O (.cells #[.int .u64 x,.int .i64 y,.int .i64 z] 165));have g0:(O.alloc (.cells #[.int .u64 x,.int .i64 y,.int .i64 z] 165)).cell? ⟨w.heap.size,0,none⟩=some (Value.int .u64 0):=u.cell 0;have h0:(O.alloc (.cells #[.int .u64 x,.int .i64 y,.int .i64 z] 165)).cell? ⟨w.heap.size,1,none⟩=some (Value.int .i64 0):=u.cell 1;have i0:(O.alloc (.cells #[.int .u64 x,.int .i64 y,.int .i64 z] 165)).cell? ⟨w.heap.size,2,none⟩=some (Value.int .i64 0):=u.cell 2;have j0:=u.free 0;have l0:=u.free 1;have m0:=u.free 2;by_cases q:0<=y/\0<=z
  ·obtain⟨d0,e0⟩:=q
   have D:decide (y<0)=false:=by simp;omega
   have U:decide (z<0)=false:=by simp;omega
   go_wp2_with fail
   (try simp only[Exit.inBlock,Exit.then])
   refine bodyPost_ret (v:= .tuple #[.agg #[.int .u64 x,.int .i64 y,.int .i64 z],.bool true]) (by rw[results_cell_tmp rfl];go_simp) rfl ?_;rw[j.o,ξ ⟨d0,e0⟩];refine⟨rfl,?_⟩
   repeat (first|refine Below.setCell ?_ (by first|exact ι _|(simp;done)|(simp;omega)) _|refine Ext.alloc ?_ _|refine Ext.drew ?_)
   exact R.o
  ·have m:y<0\/(0<=y/\z<0):=by omega
   rcases m with F|⟨F,b0⟩
   ·have D:decide (y<0)=true:=by simpa using F
    go_wp2_with fail
    (try simp only[Exit.inBlock,Exit.then])
    refine bodyPost_ret (v:= .tuple #[.agg #[.int .u64 0,.int .i64 0,.int .i64 0],.bool false]) (by rw[results_cell_tmp rfl];go_simp) rfl ?_;rw[j.o,κ q];refine⟨rfl,?_⟩
    repeat (first|refine Below.setCell ?_ (by first|exact ι _|(simp;done)|(simp;omega)) _|refine Ext.alloc ?_ _|refine Ext.drew ?_)
    exact R.o
   ·have D:decide (y<0)=false:=by simp;omega
    have U:decide (z<0)=true:=by simpa using b0
    go_wp2_with fail
    (try simp only[Exit.inBlock,Exit.then])
    refine bodyPost_ret (v:= .tuple #[.agg #[.int .u64 0,.int .i64 0,.int .i64 0],.bool false]) (by rw[results_cell_tmp rfl];go_simp) rfl ?_;rw[j.o,κ q];refine⟨rfl,?_⟩
    repeat (first|refine Below.setCell ?_ (by first|exact ι _|(simp;done)|(simp;omega)) _|refine Ext.alloc ?_ _|refine Ext.drew ?_)
    exact R.o
theorem Tryz.infoE :(Tryz.prog.info? 165).map (fun i=>(i.zero,i.size,i.bytes))=some (some (.agg #[.int .u64 0,.int .i64 0,.int .i64 0]),3,24):=by kernel_rfl
theorem y2a(n:Nat)(w:World)(d:n<=1000000):Calls Tryz.prog 324 #[.int .i64 (n:Int)] w fun e w'=>e= .returned (.int .i64 (12+24*(n:Int)))/\w=w':=by
 have b:decide ((89478484:Int)<(n:Int))=false:=by simp;omega
 go_enter Tryz.func324,Tryz.ntmps324;go_wp2_with fail;go_ret;exact⟨rn (by omega),rfl⟩
theorem y4g(n:Nat)(w:World)(d:n<=1000000):Calls Tryz.prog 280 #[.int .i64 (n:Int)] w fun e w'=>e= .returned (.int .i64 (8+24*(n:Int)))/\w=w':=by
 have b:=η (fun W=>y2a n W d);have i:((12+24*(n:Int))==0)=false:=by simp;omega
 go_enter Tryz.func280,Tryz.ntmps280;go_wp2_with fail;refine(b.o _).mono ?_;rintro e w1 ⟨rfl,rfl⟩;go_wp2_with fail;go_ret;exact⟨rn (by omega),rfl⟩
def y3w :Value->Nat| .string b=>b.size|_=>0
def y4r(w:World)(r:Option (List En))(e:Ending)(w':World):Prop:=
 match r with
 |none=>e= .returned (.tuple #[.slice none 0 0,.int .i64 90])/\Ext w w'
 |some l=> ∃v,e= .returned (.tuple #[v,.int .i64 0])/\w'.ownsRow w.heap.size 165 3 v l.length (ecs l)/\Ext w w'
theorem q6q : ∀(f g:Nat) (s:List UInt8),s.length<f->s.length<g->q2c f s=q2c g s
 |0,_,_,h,_=>by omega
 |_,0,_,_,h=>by omega
 | f + 1,g+1,s,h1,h2=>by
  unfold q2c;by_cases b:s=[]
  ·rw[ξ b,ξ b]
  ·rw [κ b,κ b]
   have d:(s.drop 24).length<s.length:=by
    have:0<s.length:=List.length_pos_iff.2 b;rw[List.length_drop];omega
   cases z1D (s.take 24) with
   |none=>rfl
   |some e=>simp only;rw[q6q f g (s.drop 24) (by omega) (by omega)]
theorem y4A(s:List UInt8)(w:World)(hl:s.length<=1048576):Calls Tryz.prog 238 #[.string ⟨s.toArray⟩] w (y4r w (q9a s)):=by
 have HO:=η (fun W=>z4g s W (by omega));by_cases d:q2Q s=true
 case neg=>
  have k0:q2Q s=false:=by simpa using d
  have HN:Hd (q9a s=none):=η (by unfold q9a;rw[κ (fun h=>d h.1)]);have hT:q2K s=[]:=by unfold q2K;rw[κ d]
  rw[k0,hT] at HO;clear d k0 hT;go_enter Tryz.func238,Tryz.ntmps238;go_wp2_with fail;refine(HO.o _).mono ?_;rintro e w1 ⟨rfl,b⟩;have U:=η b;clear b;go_wp2_with fail;go_ret2;rw[HN.o];exact⟨rfl,U.o⟩
 rw[d] at HO;have h4:4<=s.length:=by unfold q2Q at d;simp only[Ξ,Φ] at d;exact d.1
 obtain⟨T,hT⟩: ∃T,q2K s=T:=⟨_,rfl⟩
 have I:s.take (s.length-4)=T:=by rw[<-hT];unfold q2K;rw[ξ d]
 have x0:T.length=s.length-4:=by rw[<-I,Θ];omega
 have e0:s.take 4=T.take 4\/T.length<4:=by
  rcases Nat.lt_or_ge T.length 4 with h|h
  ·exact .inr h
  ·left;rw[<-I,List.take_take,Nat.min_eq_left (by omega)]
 rw[hT] at HO;have q:q9a s=if 8<=T.length/\s.take 4=z1F/\(T.drop 8).length=q1W ((T.drop 4).take 4)*24 then(match q2c (s.length+1) (T.drop 8) with|none=>none|some l=>if q2f l then some l else none) else none:=by
  unfold q9a;rw[I];by_cases hc:8<=T.length/\s.take 4=z1F/\(T.drop 8).length=q1W ((T.drop 4).take 4)*24
  ·rw[ξ hc,ξ ⟨d,by omega,hc.2.1,hc.2.2⟩]
   cases q2c (s.length+1) (T.drop 8) with
   |none=>rfl
   |some l=>rfl
  ·rw[κ hc,κ (fun h=>hc ⟨by omega,h.2.2.1,h.2.2.2⟩)]
 have J0:T.length<=1048576:=by omega
 have K0:T.length<=s.length:=by omega
 clear x0;by_cases h8:8<=T.length
 case neg=>
  have HN:Hd (q9a s=none):=η (by rw[q,κ (fun h=>h8 h.1)]);have hd:decide ((T.length:Int)<8)=true:=by simp;omega
  clear q hT I e0 h8 d;go_enter Tryz.func238,Tryz.ntmps238;go_wp2_with fail;refine(HO.o _).mono ?_;rintro e w1 ⟨rfl,b⟩;have U:=η b;clear b;go_wp2_with fail;go_ret2;rw[HN.o];exact⟨rfl,U.o⟩
 have L0:decide ((T.length:Int)<8)=false:=by simp;omega
 have Q:s.take 4=T.take 4:=by
  rcases e0 with h|h
  ·exact h
  ·omega
 rw[Q] at q;have sF:=q4l T 4 4 rfl (by omega);obtain⟨A,hA⟩: ∃A,T.take 4=A:=⟨_,rfl⟩
 rw[hA] at sF q;by_cases b0:A=z1F
 case neg=>
  have HN:Hd (q9a s=none):=η (by rw[q,κ (fun h=>b0 h.2.1)]);have r0:(A==[112,116,97,98])=false:=by simpa [z1F] using b0
  have j0:(A !=[112,116,97,98])=true:=by simpa [z1F] using b0
  clear q hT I e0 h8 d Q hA;go_enter Tryz.func238,Tryz.ntmps238;go_wp2_with fail;refine(HO.o _).mono ?_;rintro e w1 ⟨rfl,b⟩;have U:=η b;clear b;go_wp2_with fail;go_ret2;rw[HN.o];exact⟨rfl,U.o⟩
 subst b0;obtain⟨X,hX⟩: ∃X,(T.drop 4).take 4=X:=⟨_,rfl⟩
 have lX:X.length=4:=by rw[<-hX];simp;omega
 have sX:=q3B T 4 8 4 8 rfl rfl (by omega) h8 (X:=X) (by rw[<-hX];exact q6I T 4 4);have sR:=q3a T 8 8 rfl h8;obtain⟨i,d0⟩: ∃i,T.drop 8=i:=⟨_,rfl⟩
 have p0:i.length+8=T.length:=by rw[<-d0,List.length_drop];omega
 rw[hX,d0] at q;rw[d0] at sR;have hG:=fun W=>z0S X W (by omega)
 rw[Δ (by omega)] at hG;have bX:=q2R X;rw[lX] at bX;obtain⟨m,hm⟩: ∃m:Nat,q1W X=m:=⟨_,rfl⟩
 rw[hm] at hG bX q;have HG:=η hG;have M0:m<4294967296:=bX;have m0:=η q;have H0:i.length<=1048576:=by omega
 have N0:IntKind.u64.wrap (i.length:Int)=(i.length:Int):=by rw[IntKind.wrap_u64];omega
 have O0:IntKind.u64.wrap ((m:Int)*24)=(m:Int)*24:=by rw[IntKind.wrap_u64];omega
 have q0:i.length<s.length+1:=by omega
 have o0:=h8;clear q hG bX hT I e0 d Q hA hX d0 lX p0 h8;have F0:(z1F==[112,116,97,98])=true:=by decide
 have A0:(z1F !=[112,116,97,98])=false:=by decide
 have P0: ∀w,(Instr.slice 9 (.string ⟨T.toArray⟩) none (some (.int .i64 4)) none).run Tryz.prog w= .ok (.string ⟨#[112,116,97,98]⟩) w:=sF;clear sF;by_cases F:i.length=m*24
 case neg=>
  have HN:Hd (q9a s=none):=η (by rw[m0.o,κ (fun h=>F h.2.2)]);have r0:((i.length:Int)==(m:Int)*24)=false:=by simp;omega
  have j0:((i.length:Int) !=(m:Int)*24)=true:=by simp;omega
  go_enter Tryz.func238,Tryz.ntmps238;go_wp2_with fail;refine(HO.o _).mono ?_;rintro e w1 ⟨rfl,b⟩;have U:=η b;clear b;go_wp2_with fail;refine(HG.o _).mono ?_;rintro e w2 ⟨rfl,b⟩;have V:=η (U.o.trans b);clear b;go_wp2_with fail;go_ret2;rw[HN.o];exact⟨rfl,V.o⟩
 case pos =>
  have HE:Hd (q9a s=match q2c (s.length+1) i with|none=>none|some l=>if q2f l then some l else none):=η (by
   rw[m0.o,ξ ⟨o0,rfl,F⟩])
  have u0:Hd (q2c (s.length+1) i=q2c (i.length+1) i):=η (q6q _ _ _ q0 (Nat.lt_succ_self _));have r0:((i.length:Int)==(m:Int)*24)=true:=by simp;omega
  have j0:((i.length:Int) !=(m:Int)*24)=false:=by simp;omega
  have v0:=η F;clear F o0 q0;go_enter Tryz.func238,Tryz.ntmps238;go_wp2_with fail;refine(HO.o _).mono ?_;rintro e w1 ⟨rfl,b⟩;have U:=η b;clear b;go_wp2_with fail;refine(HG.o _).mono ?_;rintro e w2 ⟨rfl,b⟩;have V:=η (U.o.trans b);clear b;go_wp2_with fail;have D0:=η (V.o.size)
  go_loopw [7,8] (fun r v W=> ∃(R:List UInt8) (L:List En) (va:Value),r= .string ⟨R.toArray⟩/\v=va/\W.ownsRow w.heap.size 165 3 va L.length (ecs L)/\Ext w W/\q2c (s.length+1) i=(q2c (R.length+1) R).map (L++·)/\R.length % 24=0/\R.length+24*L.length=i.length) (fun r _ _=>y3w r)
  case atStart=>exact⟨i,[],.slice none 0 0,rfl,rfl,World.ownsRow_nil _ _ _ _,V.o,by rw[u0.o];cases q2c (i.length+1) i<;>simp,by rw[v0.o];omega,by simp⟩
  case round=>
   obtain⟨R,L,va,rfl,rfl,u,b,D,l0,G⟩:=hrel;obtain⟨Q0,vc,rfl⟩:=q0H u;have g0:=η u;have Y:=η b;have E0:=η D;have z0:=η G;have G0:L.length<=1048576:=by omega
   have B0:R.length<=1048576:=by omega
   by_cases hR:R=[]
   ·subst hR
    have i0:q2c (s.length+1) i=some L:=by
     rw[D];show(q2c 1 []).map (L++·)=some L;have:q2c 1 []=some []:=rfl;rw[this];simp
    have HS:=η (fun (W:World) (k:Ext wr W)=>by
     obtain⟨ao,cap,e1,e2⟩:=Ens.of_own (Own.of_row (q0J u k))
     cases e1
     exact z5B W e2)
    have Z:Hd (q9a s=if q2f L then some L else none):=η (by rw[HE.o,i0]);clear D i0 l0 G u b;go_wp2_with fail;refine(HS.o _ (Ext.refl _)).mono ?_;rintro e w3 ⟨rfl,b⟩;have C:=η b;clear b
    cases hq:q2f L with
    | true=>
     rw[hq] at Z;go_wp2_with fail;go_ret2;rw[Z.o];exact⟨_,rfl,q0J g0.o C.o,Y.o.trans C.o⟩
    | false=>
     rw[hq] at Z;go_wp2_with fail;go_ret2;rw[Z.o];exact⟨rfl,Y.o.trans C.o⟩
   ·have h0:24<=R.length:=by
     have:0<R.length:=List.length_pos_iff.2 hR;omega
    have I0:(R==[])=false:=by simpa using hR
    have C0:(R !=[])=true:=by simpa using hR
    have s1:=q4l R 24 24 rfl h0;have s2:=q3a R 24 24 rfl h0;have j:q2c (R.length+1) R=match z1D (R.take 24) with|none=>none|some e=>(q2c ((R.drop 24).length+1) (R.drop 24)).map (e::·):=by
     conv=>lhs;unfold q2c
     rw[κ hR]
     cases z1D (R.take 24) with
     |none=>rfl
     |some e=>simp only;rw[q6q R.length ((R.drop 24).length+1) (R.drop 24) (by rw[List.length_drop];omega) (Nat.lt_succ_self _)]
    have hD:(R.drop 24).length=R.length-24:=by rw[List.length_drop]
    obtain⟨E,hE⟩: ∃E,R.take 24=E:=⟨_,rfl⟩
    obtain⟨S,c0⟩: ∃S,R.drop 24=S:=⟨_,rfl⟩
    have lE:E.length=24:=by rw[<-hE,Θ];omega
    rw[hE] at s1;rw[c0] at s2 hD;rw[hE,c0] at j;have a0:=η (fun W=>z0T E W (by omega))
    cases hge:z1D E with
    | none=>
     have M:q7W E= .tuple #[.agg #[.int .u64 0,.int .i64 0,.int .i64 0],.bool false]:=by unfold q7W;rw[hge];rfl
     rw[M] at a0;have HN:Hd (q9a s=none):=η (by rw[HE.o,D,j,hge];rfl);clear D j M hge hE c0 hR lE u b l0 G hD;go_wp2_with fail;refine(a0.o _).mono ?_;rintro e w3 ⟨rfl,b⟩;have C:=η (Y.o.trans b);clear b;go_wp2_with fail;go_ret2;rw[HN.o];exact⟨rfl,C.o.alloc _⟩
    | some e=>
     obtain⟨x,y,z⟩:=e;have M:q7W E= .tuple #[.agg #[.int .u64 x,.int .i64 y,.int .i64 z],.bool true]:=by unfold q7W;rw[hge];rfl
     rw[M] at a0
     have t0:Hd (q2c (s.length+1) i=(q2c (S.length+1) S).map ((L++[(x,y,z)])++·)):=η (by
      rw[D,j,hge];simp only
      cases q2c (S.length+1) S<;>simp)
     have J:Hd (S.length % 24=0/\S.length+24*(L.length+1)=i.length/\S.length<R.length):=η (by omega);clear D j M hge hE c0 hR lE u b l0 G hD;go_wp2_with fail;refine(a0.o _).mono ?_;rintro e w3 ⟨rfl,b⟩;have C:=η (Y.o.trans b);have n0:=η (q0J g0.o b);have f0:=η C.o.size;clear b
     go_wp2_with (at_builtin;refine q0P rfl _ _ 187 rfl w.heap.size 165 _ 3 24 Tryz.underlying187 Tryz.infoE (by decide) (by decide) _ L.length (ecs L) rfl (q0J (q0J n0.o (q0C _ _)) (q0C _ _)) _ 1 1 (ec (x,y,z)) rfl rfl (fun h=>by cases h) (by have h:=Rd.lit (w3.alloc (Obj.cells #[.int .u64 x,.int .i64 y,.int .i64 z] 165)) #[.int .u64 x,.int .i64 y,.int .i64 z] 165;have e:(w3.alloc (Obj.cells #[.int .u64 x,.int .i64 y,.int .i64 z] 165)).heap.size=w3.heap.size+1:=Array.size_push _;rw[e] at h;exact h) (by unfold ec;simp[Value.oneCell']) (by unfold maxLen;omega) (by omega) (by have:=f0.o;simp;omega) ?_;intro v2 w5 O N y0;obtain⟨a2,k2,rfl⟩:=q0H O;have w0:=η O;have s0:=η (q0z ((C.o.alloc _).alloc _) (Own.of_row (q0J (q0J n0.o (q0C _ _)) (q0C _ _))) N (by have:=f0.o;simp;omega));clear O N y0)
     go_roundw
     case rel=>exact⟨S,L++[(x,y,z)],_,rfl,rfl,by rw[θ,z4L];exact w0.o,s0.o,t0.o,J.o.1,by rw[θ];exact J.o.2.1⟩
     case measure=>exact J.o.2.2
def md0 :En×Nat:=(en0,0)
def mc(m:En×Nat):List Value:=[.int .u64 m.1.1,.int .i64 m.1.2.1,.int .i64 m.1.2.2,.int .i64 (m.2:Int)]
def mcs(L:List (En×Nat)):List Value:=L.flatMap mc
theorem z4c(L:List (En×Nat))(e:En×Nat):mcs (L++[e])=mcs L++mc e:=by unfold mcs;simp
theorem z4b(e:En×Nat)(L:List (En×Nat)):mcs (e::L)=mc e++mcs L:=rfl
theorem z1w : ∀(L:List (En×Nat)) (i j:Nat),i<L.length->j<4->(mcs L)[i*4+j]? =(mc (L.getD i md0))[j]?
 |[],i,j,h,_=>by simp at h
 | k::L,0,j,_,hj=>by
  rw[z4b,List.getElem?_append_left (by simp[mc];omega)];simp
 | k::L,i+1,j,h,hj=>by
  rw[z4b,List.getElem?_append_right (by simp[mc];omega),show(i+1)*4+j-(mc k).length=i*4+j from by simp[mc];omega,z1w L i j (by simpa using h) hj];simp
structure Mds(w:World)(ao:Option Addr)(n cap:Nat)(L:List (En×Nat)):Prop where
 len:L.length=n
 fits:n<=cap
 bound:cap<=9223372036854775807
 nil:ao=none->cap=0
 rd:Rd w ao (mcs L)
theorem Mds.ext{w':World}(h:Mds w ao n cap L)(k:Ext w w'):Mds w' ao n cap L:=⟨h.len,h.fits,h.bound,h.nil,h.rd.ext k⟩
theorem Mds.at(h:Mds w ao n cap L){i:Nat}(u:i<n):
  ∃b off,ao=some ⟨b,off,none⟩/\w.cell? ⟨b,off+i*4,none⟩=some (.int .u64 (L.getD i md0).1.1)/\w.cell? ⟨b,off+i*4+1,none⟩=some (.int .i64 (L.getD i md0).1.2.1)/\w.cell? ⟨b,off+i*4+2,none⟩=some (.int .i64 (L.getD i md0).1.2.2)/\w.cell? ⟨b,off+i*4+3,none⟩=some (.int .i64 ((L.getD i md0).2:Int)):=by
 have x:=h.len;have o:=z1w L i 0 (by omega) (by decide);have q:=z1w L i 1 (by omega) (by decide);have r:=z1w L i 2 (by omega) (by decide);have s:=z1w L i 3 (by omega) (by decide);obtain⟨b,off,rfl,m⟩:=h.rd _ _ o;obtain⟨_,_,d,h1⟩:=h.rd _ _ q
 cases d;obtain⟨_,_,j,h2⟩:=h.rd _ _ r
 cases j;obtain⟨_,_,l,h3⟩:=h.rd _ _ s
 cases l;exact⟨b,off,rfl,m,h1,h2,h3⟩
theorem Mds.of_own(h:Own w B e 4 v L.length (mcs L)): ∃ao cap,v= .slice ao L.length cap/\Mds w ao L.length cap L:=by
 obtain⟨ao,cap,rfl,h1,h2,h3,h4⟩:=h.rd;exact⟨ao,cap,rfl,rfl,h1,h2,h3,h4⟩
theorem Tryz.infoM :(Tryz.prog.info? 390).map (fun i=>(i.zero,i.size,i.bytes))=some (some (.agg #[.int .u64 0,.int .i64 0,.int .i64 0,.int .i64 0]),4,32):=by kernel_rfl
theorem q7L(m:Nat): ∀(i:Nat) (l:List En),(q4s m i l).length<=l.length
 |_,[]=>by unfold q4s;simp
 | i,e::r=>by
  have:=q7L m (i+1) r;unfold q4s
  split<;>simp<;>omega
theorem y3X{L:List En}(w:World)(S:Ens w ao n cap L)(hn:n<=1000000):Calls Tryz.prog 261 #[.slice ao n cap] w fun r w'=> ∃v,r= .returned v/\w'.ownsRow w.heap.size 390 4 v (q2z L).length (mcs (q2z L))/\Ext w w':=by
 have Hx:=η S;have b1:=S.fits;have b2:=S.bound;have q:=η S.len;clear S;go_enter Tryz.func261,Tryz.ntmps261;go_wp2_with fail
 go_loopw [3,8] (fun v i W=> ∃(k:Nat) (M:List (En×Nat)),k<=n/\i= .int .i64 (k:Int)/\W.ownsRow w.heap.size 390 4 v M.length (mcs M)/\M++q4s n k (L.drop k)=q2z L/\Ext w W) (fun _ i _=>n-(intOf i).toNat)
 case atStart=>exact⟨0,[],υ _,rfl,World.ownsRow_nil _ _ _ _,by rw[List.nil_append,List.drop_zero];unfold q2z;rw[q.o],Ext.refl _⟩
 case round=>
  obtain⟨k,M,hk,rfl,m,s,O⟩:=hrel;have l:=η m;have D:=η O;obtain⟨va,vc,rfl⟩:=q0H m;have E:=η (O:Ext w wr).size;by_cases u:k<n
  ·have hd:decide ((k:Int)<(n:Int))=true:=by simp;omega
   obtain⟨b,off,rfl,c0,c1,c2⟩:=(Hx.o.ext O).at u;have U:L.drop k=L.getD k en0::L.drop (k+1):=by
    rw[List.drop_eq_getElem_cons (by rw[q.o];exact u)];simp[List.getD,γ (show k<L.length by rw[q.o];exact u)]
   rw[U] at s;have F:=congrArg List.length s;have Z:=q7L L.length 0 L;have Q:(q2z L).length<=n:=by unfold q2z;rw[<-q.o];exact Z
   rw[θ] at F;have a0:M.length<=n:=by omega
   generalize L.getD k en0=z at*;have u0:=q0D c0;have u1:=q0D c1;have u2:=q0D c2;have b0:IntKind.i64.wrap ((n:Int)-1)=(n:Int)-1:=by rw[ν];omega
   unfold q4s at s;obtain⟨x,y,C⟩:=z;have d0:IntKind.i64.wrap (Int.tmod (k:Int) 8)=((k % 8:Nat):Int):=by
    have:Int.tmod (k:Int) 8=((k % 8:Nat):Int):=by rw[Int.tmod_eq_emod_of_nonneg (by omega)];omega
    rw[this,ν];omega
   by_cases hm:k % 8=0
   ·rw[ξ (.inl hm)] at s
    have V:(((k % 8:Nat):Int)==0)=true:=by simp;omega
    have I:=η s;clear s m O U F
    go_wp2_with (at_builtin;refine q0P rfl (.tmp 23) (.tmp 27) 316 rfl w.heap.size 390 _ 4 32 Tryz.underlying316 Tryz.infoM (by decide) (by decide) _ M.length (mcs M) rfl (q0J (q0J l.o (q0C _ _)) (q0C _ _)) _ 1 1 (mc ((x,y,C),k)) rfl rfl (fun h=>by cases h) (by have h:=Rd.lit (wr.alloc (Obj.cells #[.int .u64 x,.int .i64 y,.int .i64 C] 165)) #[.int .u64 x,.int .i64 y,.int .i64 C,.int .i64 (k:Int)] 390;have e:(wr.alloc (Obj.cells #[.int .u64 x,.int .i64 y,.int .i64 C] 165)).heap.size=wr.heap.size+1:=Array.size_push _;rw[e] at h;exact h) (by unfold mc;simp[Value.oneCell']) (by unfold maxLen;omega) (by omega) (by have:=E.o;simp;omega) ?_;intro v2 w5 j d N;obtain⟨a2,k2,rfl⟩:=q0H j;have J:=η j;have G:=η (q0z ((D.o.alloc _).alloc _) (Own.of_row (q0J (q0J l.o (q0C _ _)) (q0C _ _))) d (by have:=E.o;simp;omega));clear j d N)
    go_roundw
    case rel=>exact⟨k+1,M++[((x,y,C),k)],u,by go_num,by rw[θ,z4c];exact J.o,by rw[List.append_assoc];exact I.o,G.o⟩
    case measure=>simp[intOf];omega
   ·have V:(((k % 8:Nat):Int)==0)=false:=by simp;omega
    by_cases Q:k+1=n
    ·rw[ξ (.inr Q)] at s
     have Y:((k:Int)==(n:Int)-1)=true:=by simp;omega
     have I:=η s;clear s m O U F
     go_wp2_with (at_builtin;refine q0P rfl (.tmp 23) (.tmp 27) 316 rfl w.heap.size 390 _ 4 32 Tryz.underlying316 Tryz.infoM (by decide) (by decide) _ M.length (mcs M) rfl (q0J (q0J l.o (q0C _ _)) (q0C _ _)) _ 1 1 (mc ((x,y,C),k)) rfl rfl (fun h=>by cases h) (by have h:=Rd.lit (wr.alloc (Obj.cells #[.int .u64 x,.int .i64 y,.int .i64 C] 165)) #[.int .u64 x,.int .i64 y,.int .i64 C,.int .i64 (k:Int)] 390;have e:(wr.alloc (Obj.cells #[.int .u64 x,.int .i64 y,.int .i64 C] 165)).heap.size=wr.heap.size+1:=Array.size_push _;rw[e] at h;exact h) (by unfold mc;simp[Value.oneCell']) (by unfold maxLen;omega) (by omega) (by have:=E.o;simp;omega) ?_;intro v2 w5 j d N;obtain⟨a2,k2,rfl⟩:=q0H j;have J:=η j;have G:=η (q0z ((D.o.alloc _).alloc _) (Own.of_row (q0J (q0J l.o (q0C _ _)) (q0C _ _))) d (by have:=E.o;simp;omega));clear j d N)
     go_roundw
     case rel=>exact⟨k+1,M++[((x,y,C),k)],u,by go_num,by rw[θ,z4c];exact J.o,by rw[List.append_assoc];exact I.o,G.o⟩
     case measure=>simp[intOf];omega
    ·rw[κ (fun h=>h.elim hm Q)] at s
     have Y:((k:Int)==(n:Int)-1)=false:=by simp;omega
     have I:=η s;clear s m O U F;go_wp2_with fail
     go_roundw
     case rel=>exact⟨k+1,M,u,by go_num,q0J l.o (q0C _ _),I.o,D.o.alloc _⟩
     case measure=>simp[intOf];omega
  ·have hd:decide ((k:Int)<(n:Int))=false:=by simp;omega
   have R:M=q2z L:=by
    rw[List.drop_of_length_le (by rw[q.o];omega)] at s;unfold q4s at s
    simpa using s
   have I:=η R;clear m O s R;go_wp2_with fail;go_ret;exact⟨_,rfl,by rw[<-I.o];exact l.o,D.o⟩
def q9o(L:List En)(k:Nat):List UInt8:=z1F++(be 4 L.length++((L.take k).map q4Y).flatten)
theorem q8l(L:List En)(k:Nat)(b:k<=L.length):(q9o L k).length=8+24*k:=by
 unfold q9o z1F;rw[θ,θ,q0G,q3g,Θ];simp;omega
theorem z8h(L:List En)(k:Nat)(b:k<L.length):q9o L (k+1)=q9o L k++q4Y (L.getD k en0):=by
 unfold q9o;have e:L.take (k+1)=L.take k++[L.getD k en0]:=by
  rw[List.take_add_one,γ b];simp[List.getD,γ b]
 rw[e];simp
theorem y0f(L:List En):q9o L L.length=q9C L:=by unfold q9o q9C;rw[List.take_length]
theorem RowN.weak{base:Nat}{xs:List Value}(h:RowN w base e v n xs)(k:B<=base):RowN w B e v n xs:=by
 obtain⟨i,g,cap,b,d,h1,h2,h3⟩:=h;exact⟨i,g,cap,b,d,h1,Ω k h2,h3⟩
def z3k(L:List En):Value:=if q2f L then .tuple #[.string ⟨(q3V L).toArray⟩,.int .i64 0] else .tuple #[.string ⟨#[]⟩,.int .i64 2]
theorem y4B{L:List En}(w:World)(J:Ens w ao n cap L)(hn:n<=1000)(Z: ∀e∈L,q3Z e=true):Calls Tryz.prog 284 #[.slice ao n cap] w fun r w'=>r= .returned (z3k L)/\Ext w w':=by
 have Hx:=η J;have b1:=J.fits;have b2:=J.bound;have x:=J.len;have l:=η x;have HS:=η (fun W (k:Ext w W)=>z5B W (J.ext k));have h0:=η Z;clear J Z
 cases hq:q2f L with
 | false=>
  have HV:Hd (z3k L= .tuple #[.string ⟨#[]⟩,.int .i64 2]):=η (by unfold z3k;rw[κ (by rw[hq];decide)]);rw[hq] at HS;clear hq x;go_enter Tryz.func284,Tryz.ntmps284;go_wp2_with fail;refine(HS.o _ (Ext.refl _)).mono ?_;rintro e w1 ⟨rfl,j⟩;have HB:=η j;clear j;go_wp2_with fail;go_ret2;rw[HV.o];exact⟨rfl,HB.o⟩
 | true =>
  have HV:Hd (z3k L= .tuple #[.string ⟨(q3V L).toArray⟩,.int .i64 0]):=η (by unfold z3k;rw[ξ hq]);rw[hq] at HS;have n0:IntKind.u64.wrap (n:Int)=(n:Int):=by rw[IntKind.wrap_u64];omega
  have HP:=η (fun W=>q7a (n:Int) 4 W (by omega) (by omega) (by omega) (by omega));have m0:((n:Int)).toNat=n:=by omega
  rw[m0] at HP;have b0:=η (q0G 4 n);have q1:¬(9223372036854775807<([112,116,97,98]:List UInt8).length+(be 4 n).length):=by rw[b0.o];decide
  have e0:Hd (([112,116,97,98]:List UInt8)++be 4 n=q9o L 0):=η (by unfold q9o z1F;rw[l.o];simp)
  have d:Hd (∀W:World,(convert 9 75 (Value.string ((⟨#[112,116,97,98]⟩:ByteArray)++⟨(be 4 n).toArray⟩))).run Tryz.prog W= .ok (.slice (some ⟨W.heap.size,0,none⟩) (q9o L 0).length (grownCap W (q9o L 0).length 0 5)) (Lib.bytesWorld W 5 ⟨(q9o L 0).toArray⟩)):=η (fun W=>by
   have h:=Lib.run_convert_string_bytes (P:=Tryz.prog) W 9 75 5 ⟨(q9o L 0).toArray⟩ Tryz.underlying9 Tryz.underlying75 Tryz.underlying5;have e:((⟨#[112,116,97,98]⟩:ByteArray)++⟨(be 4 n).toArray⟩)=⟨(q9o L 0).toArray⟩:=by
    rw[<-e0.o];exact q3c [112,116,97,98] (be 4 n)
   rw[e]
   exact h)
  have Q:=η (fun W=>RowN.of_string W 5 (q9o L 0) (by rw[q8l _ _ (υ _)];omega));have f0:=η (q8l L 0 (υ _));clear hq x;go_enter Tryz.func284,Tryz.ntmps284;go_wp2_with fail;refine(HS.o _ (Ext.refl _)).mono ?_;rintro e w1 ⟨rfl,j⟩;have HB:=η j;clear j;go_wp2_with fail;refine(HP.o _).mono ?_;rintro e w2 ⟨rfl,j⟩;have M:=η (HB.o.trans j);clear j;go_wp2_with fail;rw[d.o];have HR:=η ((Q.o w2).weak M.o.size);have a0:=η (M.o.trans (q9G w2 5 ⟨(q9o L 0).toArray⟩));generalize Lib.bytesWorld w2 5 ⟨(q9o L 0).toArray⟩=w3 at*;generalize grownCap w2 (q9o L 0).length 0 5=cap0 at*;clear d Q;rw[f0.o] at*;go_wp2_with fail
  go_loopw [4,19] (fun v i W=> ∃k:Nat,k<=n/\i= .int .i64 (k:Int)/\RowN W w.heap.size 5 v (8+24*k) (Lib.strCells ⟨(q9o L k).toArray⟩)/\Ext w W) (fun _ i _=>n-(intOf i).toNat)
  case atStart=>exact⟨0,υ _,rfl,by have:=HR.o;exact this,a0.o⟩
  case round=>
   obtain⟨k,hk,rfl,C,j⟩:=hrel;have s:=η C;have N:=η j;by_cases D:k<n
   ·have hd:decide ((k:Int)<(n:Int))=true:=by simp;omega
    obtain⟨b,off,rfl,c0,c1,c2⟩:=(Hx.o.ext j).at D;have G:=η (z8h L k (by rw[l.o];exact D));have V:=h0.o (L.getD k en0) (by rw[List.getD,γ (by rw[l.o];exact D)];simp);have O:=η (fun W=>z4l (L.getD k en0) W V);have d0:=η (q2k (L.getD k en0));clear V;generalize L.getD k en0=z at*;obtain⟨z1,z2,z3⟩:=z;unfold enV ec at O;generalize q4Y (z1,z2,z3)=E at*;have u0:=q0D c0;have u1:=q0D c1;have u2:=q0D c2;have k0:=d0.o;clear C j;obtain⟨ga,ca,rfl⟩: ∃ga ca,u4= .slice (some ⟨ga,0,none⟩) (8+24*k) ca:=by
     obtain⟨_,g,cap,_,_,h,_⟩:=s.o;exact⟨g,cap,h⟩
    go_wp2_with fail;refine(O.o _).mono ?_;rintro e w4 ⟨rfl,j⟩;have U:=η ((q0C _ _).trans j);have m:=η (N.o.trans U.o);have R:=η (s.o.kept U.o);clear j;have I:(⟨E.toArray⟩:ByteArray).size=24:=k0
    go_wp2_with (at_builtin;refine q6g _ rfl (.tmp 28) (.tmp 29) 75 9 rfl w.heap.size 5 Tryz.underlying75 Tryz.underlying9 Tryz.infoU8 _ (8+24*k) _ rfl R.o ⟨E.toArray⟩ rfl (by rw[I];unfold maxLen;omega) (by rw[I];omega) m.o.size ?_;intro v5 w5 y u;obtain⟨g5,c5,rfl⟩: ∃ga ca,v5= .slice (some ⟨ga,0,none⟩) (8+24*k+(⟨E.toArray⟩:ByteArray).size) ca:=(by obtain⟨_,g,cap,_,_,h,_⟩:=y;exact⟨g,cap,h⟩);have g0:=η y;have F:=η ((m.o:Below w.heap.size w _).grown u m.o.size (fun q hq=>by obtain⟨_,g,_,_,_,e1,e2,_⟩:=R.o;cases e1;cases hq;exact e2));clear y u)
    have j0:8+24*k+24=8+24*(k+1):=by omega
    go_roundw
    case rel=>exact⟨k+1,D,by go_num,by have:=g0.o;rw[I,j0,z2N,<-G.o] at this;exact this,F.o⟩
    case measure=>simp[intOf];omega
   ·have hd:decide ((k:Int)<(n:Int))=false:=by simp;omega
    have l0:k=n:=by omega
    subst l0;have Y:=q5x L;rw[l.o] at Y;have HK:Hd (q9o L k=q9C L):=η (by rw[<-l.o];exact y0f L);have d:Hd ((convert 75 9 u4).run Tryz.prog wr= .ok (.string ⟨(q9C L).toArray⟩) wr):=η (y4T (P:=Tryz.prog) wr 75 9 5 w.heap.size u4 (q9C L) Tryz.underlying75 Tryz.underlying5 Tryz.underlying9 (by rw[Y,<-HK.o];exact s.o));have S:=η (fun W=>q9l (q9C L) W (by omega));have i0:Hd (q1S (q9C L)=q3V L):=η rfl;rw[i0.o] at S;generalize q9C L=TC at*;clear C j;go_wp2_with fail;rw[d.o];go_wp2_with fail;refine(S.o _).mono ?_;rintro e w5 ⟨rfl,j⟩;have F:=η (N.o.trans j);clear j;go_wp2_with fail;go_ret2;rw[HV.o];exact⟨rfl,F.o⟩
theorem y0Q{m:Nat}{M:List (En×Nat)}(x:En)(w:World)(Y:Mds w ao n cap M)(hn:m<=1000000)(hm: ∀y∈M,y.2<m):Calls Tryz.prog 279 #[.slice ao n cap,.int .i64 (m:Int),enV x] w fun r w'=>r= .returned (.tuple #[.int .i64 ((q1C m x 0 M).1:Int),.int .i64 ((q1C m x 0 M).2:Int)])/\Ext w w':=by
 have Hx:=η Y;have b1:=Y.fits;have b2:=Y.bound;have u:=η Y.len;have HM:=η hm;clear Y hm;obtain⟨d,j,s⟩:=x;have J:=Blk.new w 165 #[.int .u64 d,.int .i64 j,.int .i64 s];have Q:=η (q0C w (.cells #[.int .u64 d,.int .i64 j,.int .i64 s] 165));have e0:=η (show(w.alloc (.cells #[.int .u64 d,.int .i64 j,.int .i64 s] 165)).cell? ⟨w.heap.size,0,none⟩=some (.int .u64 d) from J.cell 0);have e1:=η (show(w.alloc (.cells #[.int .u64 d,.int .i64 j,.int .i64 s] 165)).cell? ⟨w.heap.size,1,none⟩=some (.int .i64 j) from J.cell 1);have e2:=η (show(w.alloc (.cells #[.int .u64 d,.int .i64 j,.int .i64 s] 165)).cell? ⟨w.heap.size,2,none⟩=some (.int .i64 s) from J.cell 2);clear J;have HF:Hd (∀W,Ext (w.alloc (.cells #[.int .u64 d,.int .i64 j,.int .i64 s] 165)) W->W.cell? ⟨w.heap.size,0,none⟩=some (.int .u64 d)/\W.cell? ⟨w.heap.size,1,none⟩=some (.int .i64 j)/\W.cell? ⟨w.heap.size,2,none⟩=some (.int .i64 s)):=η fun W k=>⟨q0A k e0.o,q0A k e1.o,q0A k e2.o⟩
 clear e0 e1 e2;have hmx:¬((m:Int)<0):=by omega
 show Calls Tryz.prog 279 #[.slice ao n cap,.int .i64 (m:Int),.agg #[.int .u64 d,.int .i64 j,.int .i64 s]] w _;go_enter Tryz.func279,Tryz.ntmps279;go_wp2_with fail
 go_step3
 go_wp2_with fail
 go_step3
 go_wp2_with fail;generalize w.alloc (.cells #[.int .u64 d,.int .i64 j,.int .i64 s] 165)=w1 at*;generalize w.heap.size=p at*
 go_loopw [6,7,16] (fun l h i W=> ∃(k C:Nat),k<=n/\i= .int .i64 (k:Int)/\l= .int .i64 (C:Int)/\h= .int .i64 (m:Int)/\C<=m+1/\q1C m (d,j,s) C (M.drop k)=q1C m (d,j,s) 0 M/\Ext w1 W) (fun _ _ i _=>n-(intOf i).toNat)
 case atStart=>exact⟨0,0,υ _,rfl,rfl,rfl,by omega,by rw[List.drop_zero],Ext.refl _⟩
 case round =>
  obtain⟨k,C,hk,rfl,rfl,rfl,l0,G,D⟩:=hrel;have O:=η D;by_cases E:k<n
  ·have hd:decide ((k:Int)<(n:Int))=true:=by simp;omega
   obtain⟨b,off,rfl,c0,c1,c2,c3⟩:=(Hx.o.ext (Q.o.trans D)).at E;have hL:M.drop k=M.getD k md0::M.drop (k+1):=by
    rw[List.drop_eq_getElem_cons (by rw[u.o];exact E)];simp[List.getD,γ (show k<M.length by rw[u.o];exact E)]
   have a0:(M.getD k md0).2<m:=HM.o _ (by rw[List.getD,γ (show k<M.length by rw[u.o];exact E)];simp);rw[hL] at G;generalize M.getD k md0=z at*;obtain⟨z,a⟩:=z;obtain⟨d0,d1,d2⟩:=HF.o _ D;obtain⟨R,hR⟩: ∃R,q1C m (d,j,s) 0 M=R:=⟨_,rfl⟩
   rw[hR] at G;unfold q1C at G;have I:=η (fun W=>z1r z (d,j,s) W);obtain⟨q,hq⟩: ∃q,q0u z (d,j,s)=q:=⟨_,rfl⟩
   rw[hq] at G I;obtain⟨z1,z2,z3⟩:=z;unfold enV ec at I;simp only at c0 c1 c2 c3;have u0:=q0D c0;have u1:=q0D c1;have u2:=q0D c2;have u3:=q0D c3;have F:=q0C wr (.cells #[.int .u64 z1,.int .i64 z2,.int .i64 z3,.int .i64 (a:Int)] 390);have v0:=q0A F d0;have v1:=q0A F d1;have v2:=q0A F d2;have U:=η F;clear F;simp only at a0;have h0:¬((a:Int)<0):=by omega
   have i0:¬((m:Int)<(a:Int)):=by omega
   have j0:¬((m:Int)-1<(a:Int)):=by omega
   have k0:IntKind.i64.wrap ((a:Int)+1)=(a:Int)+1:=by rw[ν];omega
   have b0:min a (m-1)+1=a+1:=by omega
   have f0:min a m=a:=by omega
   rw[b0,f0,<-hR] at G;clear hR;have g0:IntKind.i64.wrap ((m:Int)-1)=(m:Int)-1:=by rw[ν];omega
   have S:=η G;clear G hL D hq
   cases q with
   | true=>
    rw[ξ rfl] at S;go_wp2_with fail;refine(I.o _).mono ?_;rintro e w5 ⟨rfl,D⟩;have N:=η (O.o.trans (U.o.trans D));clear D;go_wp2_with fail
    go_roundw
    case rel=>exact⟨k+1,a+1,E,by go_num,by go_num,rfl,by omega,S.o,N.o⟩
    case measure=>simp[intOf];omega
   | false=>
    have Z:Hd (q1C m (d,j,s) 0 M=(C,max C a)):=η (by rw[<-S.o,κ (by decide)]);go_wp2_with fail;refine(I.o _).mono ?_;rintro e w5 ⟨rfl,D⟩;have N:=η (Q.o.trans (O.o.trans (U.o.trans D)));clear D;go_wp2_with fail
    all_goals
     go_ret2;refine⟨?_,N.o⟩;rw[Z.o];show _=Ending.returned (.tuple #[.int .i64 (C:Int),.int .i64 ((max C a:Nat):Int)])
     first
      |(rw[Nat.max_eq_right (by omega)];rfl)
      |(rw[Nat.max_eq_left (by omega)];rfl)
  ·have hd:decide ((k:Int)<(n:Int))=false:=by simp;omega
   have V:q1C m (d,j,s) 0 M=(C,max C m):=by
    rw[List.drop_of_length_le (by rw[u.o];omega)] at G;rw[<-G];rfl
   have S:=η V;clear G V D;go_wp2_with fail
   all_goals
    go_ret2;refine⟨?_,Q.o.trans O.o⟩;rw[S.o];show _=Ending.returned (.tuple #[.int .i64 (C:Int),.int .i64 ((max C m:Nat):Int)])
    first
     |(rw[Nat.max_eq_right (by omega)];rfl)
     |(rw[Nat.max_eq_left (by omega)];rfl)
end
end Go.Proofs.YtfiibpgoplcgkaaGreatDoor
