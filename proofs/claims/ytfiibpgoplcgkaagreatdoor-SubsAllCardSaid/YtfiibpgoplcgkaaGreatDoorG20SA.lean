/- Walks. -/
import Derived.Test.YtfiibpgoplcgkaaGreatDoorG19SA
import Derived.Test.YtfiibpgoplcgkaaGreatDoorG9SA
import Derived.Test.YtfiibpgoplcgkaaGreatDoorG18SA
set_option linter.unusedVariables false
set_option linter.unusedSimpArgs false
set_option maxRecDepth 100000
set_option maxHeartbeats 6400000
namespace Go.Proofs.YtfiibpgoplcgkaaGreatDoor
variable {w:World}{n k p:Nat}{mv:Value}{f:Nat->Bool}
section
open Go.RowKit
def pgE(v:Value):Option (DataW Unit×List MemPlace):=
 match v with
 | .string s=>if s.size=60 then some (.lit (.string s.data.toList),[]) else none
 |_=>none
theorem y2f{l:List UInt8}(h:l.length=60):pgE (.string ⟨l.toArray⟩)=some (.lit (.string l),[]):=by
 unfold pgE;have:(⟨l.toArray⟩:ByteArray).size=60:=h;simp only[this,if_true]
theorem y1K{v:Value}{y:DataW Unit×List MemPlace}(h:pgE v=some y): ∃l:List UInt8,l.length=60/\v= .string ⟨l.toArray⟩/\y=(.lit (.string l),[]):=by
 unfold pgE at h
 split at h
 ·rename_i s
  split at h
  ·rename_i b
   refine⟨s.data.toList,by simpa using b,by simp,by simpa using h.symm⟩
  ·cases h
 ·cases h
theorem y3j :Maps.Keyed Tryz.prog 3:=Maps.int_keyed Tryz.underlying3
theorem y3a(w:World):(zeroValue 9).run Tryz.prog w= .ok (.string ⟨#[]⟩) w:=by kernel_rfl
theorem y2G{x:Int}(i:0<=x)(j:x<=1000000000000):keyOf Tryz.prog 3 (.int .i64 x)=some (.int .i64 x):=by
 refine Maps.keyOf_int_mk Tryz.underlying3 ?_;have b:IntKind.i64.min= -9223372036854775808:=by kernel_rfl
 have d:IntKind.i64.max=9223372036854775807:=by kernel_rfl
 simp only[Lit.wf,b,d];simp;omega
abbrev Pgs(w:World)(m n:Nat)(D:DataW Unit):Prop:=w.ownsMap Tryz.prog 3 pgE m n D
def z7L(D:DataW Unit)(k:Int):Option (List UInt8):=match D.atKey (.int .i64 k) .nil with| .lit (.string l)=>some l|_=>none
theorem z7O{m:Nat}{D:DataW Unit}(h:Pgs w m n D){k:Int}(o:0<=k)(s:k<=1000000000000):
  (z7L D k=none/\(Instr.lookup 317 (.map (some m)) (.int .i64 k) true).run Tryz.prog w= .ok (.tuple #[.string ⟨#[]⟩,.bool false]) w)\/
  ∃l,z7L D k=some l/\l.length=60/\(Instr.lookup 317 (.map (some m)) (.int .i64 k) true).run Tryz.prog w= .ok (.tuple #[.string ⟨l.toArray⟩,.bool true]) w:=by
 obtain⟨es,i,u,F,_,rfl⟩:=h;rcases Maps.fit_look true y3j Tryz.underlying317 (y3a w) u F (y2G o s) with⟨b,_,d⟩|⟨v,y,_,_,b,j,d,_⟩
 ·exact .inl ⟨by unfold z7L;rw[d],b⟩
 ·obtain⟨l,q,r,rfl⟩:=y1K j
  refine .inr ⟨l,by unfold z7L;rw[d],q,?_⟩;rw[<-r];exact b
def y1b(D:DataW Unit)(z:Int):Bool:=
 match z7L D (z/8/60) with
 |none=>true
 |some l=>!(bits .and .u8 ((l.getD (z/8 % 60).toNat 0).toNat:Int) (IntKind.u8.wrap (2^(z % 8).toNat))==0)
def z7s(s:Nat)(D:DataW Unit)(h:Int)(i:Nat):Bool:=y1b D (q6n h i (8*s:Nat))
def z6z(p s:Nat)(D:DataW Unit)(h:Int):Bool:=(List.range p).all (z7s s D h)
def FilK(w:World)(p s:Nat)(mv:Value)(D:DataW Unit):Prop:=
 (∃mo,mv= .map mo)/\((p=0/\mv= .map none)\/(p<=16/\1<=s/\s<=120000/\s % 60=0/\ ∃m n,mv= .map (some m)/\Pgs w m n D))
theorem FilK.ext{w':World}{s:Nat}{D:DataW Unit}(h:FilK w p s mv D)(k:Ext w w'):FilK w' p s mv D:=by
 obtain⟨d,b|⟨b,j,l,o,m,n,q,i⟩⟩:=h
 ·exact⟨d,.inl b⟩
 ·refine⟨d,.inr ⟨b,j,l,o,m,n,q,q2X i (k.block m ?_)⟩⟩
  exact i.lt
theorem z7i(l:List UInt8)(j:Nat)(b:j<l.length): ∀W,(Instr.index 9 (.string ⟨l.toArray⟩) (.int .i64 (j:Int))).run Tryz.prog W= .ok (.int .u8 ((l.getD j 0).toNat:Int)) W:=fun W=>by
 have d:(⟨l.toArray⟩:ByteArray).size=l.length:=rfl;rw[run_index_string W 9 ⟨l.toArray⟩ .i64 (j:Int) Tryz.underlying9,dif_pos (by rw[d];omega)]
 congr 3
 simp[List.getD,b]
 rfl
theorem z8J(h:(List.range k).all f=true):(List.range (k+1)).all f=f k:=by
 rw[List.range_succ,List.all_append,h];simp
theorem z5p(b:k<p)(h:f k=false):(List.range p).all f=false:=by
 rw[List.all_eq_false];exact⟨k,List.mem_range.2 b,by rw[h];decide⟩
theorem y0A{s:Nat}{D:DataW Unit}(h:Int)(w:World)(R:FilK w p s mv D):Calls Tryz.prog 278 #[.agg #[.int .i64 (p:Int),.int .i64 (s:Int),mv],.int .u64 h] w fun r w'=>r= .returned (.bool (z6z p s D h))/\Ext w w':=by
 have i0:=η R;obtain⟨⟨N,rfl⟩,R⟩:=R;have HF:=η R;clear R;have G:=Blk.new w 319 #[.int .i64 (p:Int),.int .i64 (s:Int),.map N];have F:=η (q0B w (.cells #[.int .i64 (p:Int),.int .i64 (s:Int),.map N] 319));have a0:Hd (∀W,Ext (w.alloc (.cells #[.int .i64 (p:Int),.int .i64 (s:Int),.map N] 319)) W->W.cell? ⟨w.heap.size,1,none⟩=some (.int .i64 (s:Int))/\W.cell? ⟨w.heap.size,2,none⟩=some (.map N)):=η fun W k=>⟨q0A k (G.cell 1),q0A k (G.cell 2)⟩
 clear G;go_enter Tryz.func278,Tryz.ntmps278;go_wp2_with fail;generalize w.alloc (.cells #[.int .i64 (p:Int),.int .i64 (s:Int),.map N] 319)=w1 at*;generalize w.heap.size=q at*
 go_loopw [11] (fun i W=> ∃k:Nat,k<=p/\i= .int .i64 (k:Int)/\(List.range k).all (z7s s D h)=true/\Ext w1 W) (fun i _=>p-(intOf i).toNat)
 case atStart=>exact⟨0,υ _,rfl,rfl,Ext.refl _⟩
 case round=>
  obtain⟨k,hk,rfl,u,Q⟩:=hrel;have E:=η Q;have O:=η u;by_cases I:k<p
  ·have hd:decide ((k:Int)<(p:Int))=true:=by simp;omega
   obtain⟨c1,c2⟩:=a0.o _ Q;obtain⟨j0,s1,s9,k0,m,n,e,J⟩:p<=16/\1<=s/\s<=120000/\s % 60=0/\ ∃m n,Value.map N= .map (some m)/\Pgs w m n D:=by
    rcases HF.o with⟨h0,_⟩|h0
    ·omega
    ·exact h0
   cases e;have C:Pgs wr m n D:=q2X J ((F.o.trans Q).block m J.lt);have e1:IntKind.i64.wrap (8*(s:Int))=((8*s:Nat):Int):=by rw[ν];omega
   have M:=z1S h k ((8*s:Nat):Int) (by omega);have Z:=η (fun W=>y1N W h k (8*s) (by omega) (by omega) (by omega));have b:Hd (z7s s D h k=y1b D (q6n h k ((8*s:Nat):Int))):=η rfl;have v:=η (z8J (f:=z7s s D h) u);obtain⟨z,hz⟩: ∃z,q6n h k ((8*s:Nat):Int)=z:=⟨_,rfl⟩
   rw[hz] at M Z b;obtain⟨B,hB⟩: ∃B:Int,((8*s:Nat):Int)=B:=⟨_,rfl⟩
   rw[hB] at e1 Z;have z9:z<960001:=by omega
   have z0:=M.1;have e2:Int.tdiv z 8=z/8:=Int.tdiv_eq_ediv_of_nonneg z0;have e3:IntKind.i64.wrap (z/8)=z/8:=by rw[ν];omega
   have e4:Int.tdiv (z/8) 60=z/8/60:=Int.tdiv_eq_ediv_of_nonneg (by omega);have e5:IntKind.i64.wrap (z/8/60)=z/8/60:=by rw[ν];omega
   have U:=z7O C (k:=z/8/60) (by omega) (by omega);obtain⟨pg,x⟩: ∃pg,z/8/60=pg:=⟨_,rfl⟩
   unfold y1b at b;rw[x] at U e4 e5 b;clear Q u J C M hz hB;rcases U with⟨V,X⟩|⟨l,V,g0,X⟩
   ·rw[V] at b
    clear V x;go_wp2_with fail;refine(Z.o _).mono ?_;rintro e w2 ⟨rfl,rfl⟩;go_wp2_with fail;refine q0E (by kernel_rfl) (by kernel_rfl) ?_
    repeat (go_big_quiet_step (fail))
    refine wpQuiet_nil ?_;intro w5 Y;have y:=η (E.o.trans Y);clear Y;go_wp2_with fail
    go_roundw
    case rel=>exact⟨k+1,I,by go_num,by rw[v.o];exact b.o,y.o⟩
    case measure=>simp[intOf];omega
   ·rw [V] at b
    have e6:Int.tmod (z/8) 60=z/8 % 60:=Int.tmod_eq_emod_of_nonneg (by omega);obtain⟨j,hj⟩: ∃j:Nat,z/8 % 60=(j:Int):=⟨(z/8 % 60).toNat,by omega⟩
    have f0:j<60:=by omega
    have c0:j<l.length:=by omega
    rw[hj] at e6 b;have e7:IntKind.i64.wrap (j:Int)=(j:Int):=by rw[ν];omega
    have e8:Int.tmod z 8=z % 8:=Int.tmod_eq_emod_of_nonneg z0;obtain⟨r,hr⟩: ∃r,z % 8=r:=⟨_,rfl⟩
    have r0:0<=r:=by omega
    have r8:r<8:=by omega
    rw[hr] at e8 b;have e9:IntKind.i64.wrap r=r:=by rw[ν];omega
    have S:=z7i l j c0;have HJ:Hd ((j:Int).toNat=j):=η (by omega);rw[HJ.o] at b;obtain⟨cv,hcv⟩: ∃cv:Int,((l.getD j 0).toNat:Int)=cv:=⟨_,rfl⟩
    rw[hcv] at S;have d:Hd (z7s s D h k=!(bits .and .u8 cv (IntKind.u8.wrap (2^r.toNat))==0)):=η (by rw[b.o];simp only;rw[hcv]);clear b;clear V x hr hcv;go_wp2_with fail;refine(Z.o _).mono ?_;rintro e w2 ⟨rfl,rfl⟩;go_wp2_with fail;refine wp_region_still_lit (by kernel_rfl) (by kernel_rfl) ?_
    repeat still_step
    refine wpStill_nil ?_;have y:=η (E.o.drew);clear hj e6 e7 e8 e9 S;obtain⟨tb,e0⟩: ∃tb,(bits .and .u8 cv (IntKind.u8.wrap (2^r.toNat))==0)=tb:=⟨_,rfl⟩
    rw[e0] at d
    cases tb with
    | true=>
     have b0:Hd (z6z p s D h=false):=η (z5p I d.o);go_wp2_with fail;go_ret;exact⟨rb b0.o,F.o.trans y.o⟩
    | false=>
     go_wp2_with fail
     go_roundw
     case rel=>exact⟨k+1,I,by go_num,by rw[v.o];exact d.o,y.o⟩
     case measure=>simp[intOf];omega
  ·have hd:decide ((k:Int)<(p:Int))=false:=by simp;omega
   have d0:k=p:=by omega
   subst d0;clear Q u;go_wp2_with fail;go_ret;exact⟨rb O.o,F.o.trans E.o⟩
theorem q1I{fn:Func}{p:Tmp}{ty:TypeId}(h:fn.results=#[.cell p ty])(tmps:Array Value)(P:Program)(w:World):
  (results fn tmps).run P w=((asAddr (tmps.getD p undef)).run P w).andThen fun a w₁=>(loadVar ty a).run P w₁:=by
 simp only[results,h];simp[Sem.run_bind,Result.andThen]
def y2x(B:Nat)(mv:Value):Prop:= ∀m,mv= .map (some m)->B<=m
def y1k(w:World)(s:List UInt8)(e:Ending)(w':World):Prop:=
 ∃(p z:Nat) (mv:Value) (D:DataW Unit),e= .returned (.agg #[.int .i64 (p:Int),.int .i64 (z:Int),mv])/\FilK w' p z mv D/\y2x w.heap.size mv/\(s.length<64->p=0/\mv= .map none)/\Ext w w'
theorem z6c(s : List UInt8)(w:World)(hl:s.length<=1048576):Calls Tryz.prog 263 #[.string ⟨s.toArray⟩] w (y1k w s):=by
 have n0:=Blk.new w 319 #[.int .i64 0,.int .i64 0,.map none];have k0:=η (q0B w (.cells #[.int .i64 0,.int .i64 0,.map none] 319));by_cases J0:s.length<64
 ·have hd:decide ((s.length:Int)<64)=true:=by simp;omega
  go_enter Tryz.func263,Tryz.ntmps263;go_wp2_with fail
  (try simp only[Exit.inBlock,Exit.then])
  refine bodyPost_ret (v:= .agg #[.int .i64 0,.int .i64 0,.map none]) (by rw[q1I rfl];go_simp) rfl ?_;exact⟨0,0,.map none,.map [],rfl,⟨⟨none,rfl⟩,.inl ⟨rfl,rfl⟩⟩,(fun m h=>by cases h),fun _=>⟨rfl,rfl⟩,k0.o⟩
 ·have hd : decide ((s.length:Int)<64)=false:=by simp;omega
  have s1:=q4P s 64 64 rfl (by omega);obtain⟨F,hF⟩: ∃F,s.take 64=F:=⟨_,rfl⟩
  have lF:F.length=64:=by rw[<-hF,Θ];omega
  rw[hF] at s1;have s2:=q3V F 4 8 4 8 rfl rfl (by omega) (by omega) (X:=(F.take 8).drop 4) rfl;obtain⟨X,hX⟩: ∃X,(F.take 8).drop 4=X:=⟨_,rfl⟩
  have lX:X.length=4:=by rw[<-hX];simp;omega
  rw[hX] at s2;have q0: ∀W,(Instr.index 9 (.string ⟨F.toArray⟩) (.int .i64 3)).run Tryz.prog W= .ok (.int .u8 ((F.getD 3 0).toNat:Int)) W:=z7i F 3 (by omega);obtain⟨p,hp⟩: ∃p:Nat,(F.getD 3 0).toNat=p:=⟨_,rfl⟩
  have v0:p<=255:=by rw[<-hp];have:=(F.getD 3 0).toNat_lt;omega
  rw[hp] at q0;have e1:IntKind.i64.wrap (p:Int)=(p:Int):=by rw[ν];omega
  have HG:=η (fun W=>q9l X W (by omega));have bX:=q2O (X.take 8);rw[Δ (by omega)] at HG bX;rw[lX] at bX;obtain⟨z,hz⟩: ∃z:Nat,q1O X=z:=⟨_,rfl⟩
  rw[hz] at HG bX;have bz:z<4294967296:=bX;have e2:IntKind.i64.wrap (z:Int)=(z:Int):=by rw[ν];omega
  have LX:X.length<=9223372036854775807:=by omega
  have HM:=η (fun W=>y3P (z:Int) (p:Int) W (by omega) (by omega));have HH:=η (fun W=>y2F z p W (by omega) v0);have C0:=η lF;clear hF hX hz hp bX lF lX;go_enter Tryz.func263,Tryz.ntmps263;go_wp2_with fail;refine q0E (by kernel_rfl) (by kernel_rfl) ?_
  repeat (go_big_quiet_step (fail))
  go_big_quiet_step (exact Calls.quiet_ext (HG.o _))
  repeat (go_big_quiet_step (fail))
  refine wpQuiet_nil ?_;intro w2 a0;have R:=η (k0.o.trans a0);have j:=n0.ext a0;clear a0 HG n0 q0 s1 s2
  cases hm:z2S (z:Int) (p:Int) with
  | false=>
   rw[hm] at HM;go_wp2_with fail;refine(HM.o _).mono ?_;rintro e q ⟨rfl,rfl⟩;have r0:w2.cell? ⟨w.heap.size,0,none⟩=some (Value.int .i64 0):=j.cell 0;have r1:w2.cell? ⟨w.heap.size,1,none⟩=some (Value.int .i64 0):=j.cell 1;have r2:w2.cell? ⟨w.heap.size,2,none⟩=some (Value.map none):=j.cell 2;have y0:=j.free 0;have y1:=j.free 1;have y2:=j.free 2;go_wp2_with fail
   (try simp only[Exit.inBlock,Exit.then])
   refine bodyPost_ret (v:= .agg #[.int .i64 0,.int .i64 0,.map none]) (by rw[q1I rfl];go_simp) rfl ?_;refine⟨0,0,.map none,.map [],rfl,⟨⟨none,rfl⟩,.inl ⟨rfl,rfl⟩⟩,(fun m h=>by cases h),fun _=>⟨rfl,rfl⟩,?_⟩
   repeat (first|refine Below.setCell ?_ (by first|exact ι _|(simp;done)|(simp;omega)) _|refine Ext.alloc ?_ _|refine Ext.drew ?_)
   exact R.o
  | true =>
   rw[hm] at HM;have u0:0<z/\z<=120000/\z % 60=0/\1<=p/\p<=16:=by unfold z2S at hm;simp at hm;omega
   go_wp2_with fail;refine(HM.o _).mono ?_;rintro e q ⟨rfl,rfl⟩;go_wp2_with fail;refine(HH.o _).mono ?_;rintro e q ⟨rfl,U⟩;have S:=η (R.o.trans U);have l:=j.ext U;clear U HM HH j hm e1 e2 LX C0;obtain⟨HD,m0⟩: ∃HD,z9A z p=HD:=⟨_,rfl⟩
   rw[m0];by_cases p0:F=HD
   ·subst p0
    have o0:(F==F)=true:=by simp
    have M0:=@run_makeMap Tryz.prog;obtain⟨g,hg⟩: ∃g,z=60*g:=⟨z/60,by omega⟩
    have e3:Int.tdiv (z:Int) 60=(g:Int):=by rw[Int.tdiv_eq_ediv_of_nonneg (by omega)];omega
    have e4:IntKind.i64.wrap (g:Int)=(g:Int):=by rw[ν];omega
    have g9:g<=2000:=by omega
    have HZ:=η hg;have E0:=η u0;clear hg u0 m0 v0 bz;go_wp2_with fail;have w0:=l.lt;have Z:=((World.ownsMap_made (H:=Unit) q Tryz.prog 3 pgE).alloc (.cells #[.int .i64 (p:Int),.int .i64 (z:Int),.map (some q.heap.size)] 319))
    have J:=Blk.new (q.alloc (.map #[] 0)) 319 #[.int .i64 (p:Int),.int .i64 (z:Int),.map (some q.heap.size)];rw[ρ] at J;have l0:=l.ext (q5q q (.map #[] 0) (.cells #[.int .i64 (p:Int),.int .i64 (z:Int),.map (some q.heap.size)] 319));have z0:=S.o.trans (q5q q (.map #[] 0) (.cells #[.int .i64 (p:Int),.int .i64 (z:Int),.map (some q.heap.size)] 319));obtain⟨m,hm⟩: ∃m,q.heap.size=m:=⟨_,rfl⟩
    have t0:w.heap.size<m:=by rw[<-hm];exact w0
    generalize N0:(q.alloc (.map #[] 0)).alloc (.cells #[.int .i64 (p:Int),.int .i64 (z:Int),.map (some q.heap.size)] 319)=w4 at*;rw[hm] at Z J;rw[hm];clear hm w0;have D0:=η Z;have A0:=η J;have F0:=η l0;have H0:=η z0;clear Z J l0 z0 S R M0 o0;have c0:Hd (∀(V W:World) (D:DataW Unit) (n:Nat),Pgs V m n D->Ext w V->OffS (fun i=>i=w.heap.size) V W->y1k w s (.returned (.agg #[.int .i64 (p:Int),.int .i64 (z:Int),.map (some m)])) W):=η fun V W D n h1 h2 h3=>by
     obtain⟨a1,a2,a3,a4,a5⟩:=E0.o;exact⟨p,z,_,D,rfl,⟨⟨_,rfl⟩,.inr ⟨a5,a1,a2,a3,m,n,rfl,q2X h1 (h3.block m h1.lt (by omega))⟩⟩,(fun m' h=>by cases h;exact Nat.le_of_lt t0),(fun h=>absurd h J0),h3.ext h2 fun i hi=>by rw[hi];exact ι _⟩
    go_loopw [42] (fun i W=> ∃k n:Nat,∃D,k<=g/\n<=k/\i= .int .i64 (k:Int)/\Pgs W m n D/\Blk W (m+1) 319 #[.int .i64 (p:Int),.int .i64 (z:Int),.map (some m)]/\Blk W w.heap.size 319 #[.int .i64 0,.int .i64 0,.map none]/\Ext w W) (fun i _=>g-(intOf i).toNat)
    case atStart=>exact⟨0,0,_,υ _,ι _,rfl,D0.o,A0.o,F0.o,H0.o⟩
    case round=>
     obtain⟨k,n,D,hk,hn,rfl,y,d,b,hb⟩:=hrel;have G:=η hb;by_cases s0:k<g
     ·have K0:decide ((k:Int)<(g:Int))=true:=by simp;omega
      have e5:IntKind.i64.wrap ((k:Int)+1)=(k:Int)+1:=by rw[ν];omega
      obtain⟨A,hA⟩: ∃A:Int,((k:Int)+1)*64=A:=⟨_,rfl⟩
      obtain⟨a,ha⟩: ∃a:Nat,(k+1)*64=a:=⟨_,rfl⟩
      have I:A=(a:Int):=by omega
      have e6:IntKind.i64.wrap (((k:Int)+1)*64)=A:=by rw[ν];omega
      have e7:IntKind.i64.wrap (A+64)=A+64:=by rw[ν];omega
      by_cases M:(s.length:Int)<A+64
      ·have L0:decide ((s.length:Int)<A+64)=true:=ζ M
       clear hA ha I M;have r0:wr.cell? ⟨w.heap.size,0,none⟩=some (Value.int .i64 0):=b.cell 0;have r1:wr.cell? ⟨w.heap.size,1,none⟩=some (Value.int .i64 0):=b.cell 1;have r2:wr.cell? ⟨w.heap.size,2,none⟩=some (Value.map none):=b.cell 2;have y0:=b.free 0;have y1:=b.free 1;have y2:=b.free 2;have b0:wr.cell? ⟨m+1,0,none⟩=some (Value.int .i64 (p:Int)):=d.cell 0;have b1:wr.cell? ⟨m+1,1,none⟩=some (Value.int .i64 (z:Int)):=d.cell 1;have b2:wr.cell? ⟨m+1,2,none⟩=some (Value.map (some m)):=d.cell 2;have r:=η y;clear y hb d b;go_wp2_with fail
       (try simp only[Exit.inBlock,Exit.then])
       refine bodyPost_ret (v:= .agg #[.int .i64 (p:Int),.int .i64 (z:Int),.map (some m)]) (by rw[q1I rfl];go_simp) rfl ?_;refine c0.o _ _ _ _ r.o G.o ?_;refine OffS.trans (OffS.trans (OffS.set _ ?_ _ _) (OffS.set _ ?_ _ _)) (OffS.set _ ?_ _ _)<;>rfl
      ·have L0:decide ((s.length:Int)<A+64)=false:=ε M
       have x0:=q3V s A (A+64) a (a+64) I (by rw[I];push_cast;rfl) (by omega) (by omega) (X:=(s.drop a).take 64) (by rw[List.drop_take];congr 1;omega);obtain⟨Y,hY⟩: ∃Y,(s.drop a).take 64=Y:=⟨_,rfl⟩
       have lY:Y.length=64:=by rw[<-hY,Θ,List.length_drop];omega
       rw[hY] at x0;have HO:=η (fun W=>open_c Y W (by omega));have hT:q2L Y=true->(q1z Y).length=60:=fun h=>by unfold q1z;rw[ξ h,Θ];omega
       generalize q1z Y=YT at*;have r:=η y;have e0:=η d;have j0:=η b;clear hA ha hY y hb d b lY I M;go_wp2_with fail;refine(HO.o _).mono ?_;rintro e w5 ⟨rfl,B⟩;have d0:=η (G.o.trans B);have Q:Hd (Pgs w5 m n D):=η (q2X r.o (B.block m r.o.lt));have C:=e0.o.ext B;have O:=η C;have i0:=η (j0.o.ext B);have b2:w5.cell? ⟨m+1,2,none⟩=some (Value.map (some m)):=C.cell 2;clear B HO C r e0 j0 G x0
       cases hob:q2L Y with
       | false=>
        go_wp2_with fail
        go_roundw
        case rel=>exact⟨k+1,n,D,s0,by omega,by go_num,Q.o,O.o,i0.o,d0.o⟩
        case measure=>simp[intOf];omega
       | true=>
        have g0:=η (y2G (x:=(k:Int)) (by omega) (by omega));have I0:=η (y2f (hT hob));clear hT
        go_wp2_with (at_mapUpdate;refine wpList_mapUpdate_in _ rfl _ _ _ 317 rfl 3 9 y3j Tryz.underlying317 pgE m n D rfl Q.o (by unfold maxLen;omega) _ _ (.int .i64 (k:Int)) rfl rfl g0.o (.lit (.string YT)) [] I0.o ?_;intro w6 E u)
        have N:OffS (fun i=>i=m) w5 w6:=OffS.turned u rfl;have B0:Hd (Ext w w6):=η (N.ext d0.o fun i hi=>by rw[hi];exact Nat.le_of_lt t0);have f0:=η (N.blk O.o (by omega));have G0:=η (N.blk i0.o (by omega));have h0:Hd (Pgs w6 m (n+1) _):=η E;clear N E u b2;go_wp2_with fail
        go_roundw
        case rel=>exact⟨k+1,n+1,_,s0,by omega,by go_num,h0.o,f0.o,G0.o,B0.o⟩
        case measure=>simp[intOf];omega
     ·have K0:decide ((k:Int)<(g:Int))=false:=by simp;omega
      have r0:wr.cell? ⟨w.heap.size,0,none⟩=some (Value.int .i64 0):=b.cell 0;have r1:wr.cell? ⟨w.heap.size,1,none⟩=some (Value.int .i64 0):=b.cell 1;have r2:wr.cell? ⟨w.heap.size,2,none⟩=some (Value.map none):=b.cell 2;have y0:=b.free 0;have y1:=b.free 1;have y2:=b.free 2;have b0:wr.cell? ⟨m+1,0,none⟩=some (Value.int .i64 (p:Int)):=d.cell 0;have b1:wr.cell? ⟨m+1,1,none⟩=some (Value.int .i64 (z:Int)):=d.cell 1;have b2:wr.cell? ⟨m+1,2,none⟩=some (Value.map (some m)):=d.cell 2;have r:=η y;clear y hb d b;go_wp2_with fail
      (try simp only[Exit.inBlock,Exit.then])
      refine bodyPost_ret (v:= .agg #[.int .i64 (p:Int),.int .i64 (z:Int),.map (some m)]) (by rw[q1I rfl];go_simp) rfl ?_;refine c0.o _ _ _ _ r.o G.o ?_;refine OffS.trans (OffS.trans (OffS.set _ ?_ _ _) (OffS.set _ ?_ _ _)) (OffS.set _ ?_ _ _)<;>rfl
   ·have o0:(F==HD)=false:=by simpa using p0
    have r0:q.cell? ⟨w.heap.size,0,none⟩=some (Value.int .i64 0):=l.cell 0;have r1:q.cell? ⟨w.heap.size,1,none⟩=some (Value.int .i64 0):=l.cell 1;have r2:q.cell? ⟨w.heap.size,2,none⟩=some (Value.map none):=l.cell 2;have y0:=l.free 0;have y1:=l.free 1;have y2:=l.free 2;go_wp2_with fail
    (try simp only[Exit.inBlock,Exit.then])
    refine bodyPost_ret (v:= .agg #[.int .i64 0,.int .i64 0,.map none]) (by rw[q1I rfl];go_simp) rfl ?_;refine⟨0,0,.map none,.map [],rfl,⟨⟨none,rfl⟩,.inl ⟨rfl,rfl⟩⟩,(fun m h=>by cases h),fun _=>⟨rfl,rfl⟩,?_⟩
    repeat (first|refine Below.setCell ?_ (by first|exact ι _|(simp;done)|(simp;omega)) _|refine Ext.alloc ?_ _|refine Ext.drew ?_)
    exact S.o
theorem q7h(b:Nat)(W:World):(callFunc 185 #[.float .f64 b]).run Tryz.prog W= .ok (.value (.int .u64 b)) W:=by kernel_rfl
theorem z0y(n:Nat)(W:World):(callFunc 189 #[.int .u64 (n:Int)]).run Tryz.prog W= .ok (.value (.float .f64 n)) W:=by kernel_rfl
theorem y3Q(h:Int)(w:World):Calls Tryz.prog 151 #[.int .u64 h] w fun e w'=>e= .returned (.int .u64 (y2R h))/\w=w':=by
 go_enter Tryz.func151,Tryz.ntmps151;go_wp2_with fail;go_ret;exact⟨rfl,rfl⟩
theorem y1g(a b:Int):0<=bits .xor .u64 a b/\bits .xor .u64 a b<18446744073709551616:=by
 unfold bits;rw[IntKind.wrap_u64];omega
theorem z5C(h:Int):0<=y2R h/\y2R h<18446744073709551616:=y1g _ _
theorem z2N(sd:Int)(s:List UInt8):0<=q2g sd s/\q2g sd s<18446744073709551616:=by
 unfold q2g
 split
 ·omega
 ·exact z5C _
theorem z4y(l:List UInt8)(b:UInt8)(h:Int):z2O (l++[b]) h=IntKind.u64.wrap (bits .xor .u64 (z2O l h) (b.toNat:Int)*1099511628211):=by unfold z2O;rw[List.foldl_append];rfl
theorem z3i(sd:Int)(s:List UInt8)(w:World)(F:s.length<=4611686018427387903):Calls Tryz.prog 89 #[.int .u64 sd,.string ⟨s.toArray⟩] w fun e w'=>e= .returned (.int .u64 (q2g sd s))/\w=w':=by
 by_cases l:sd=0
 ·subst l
  have j:Hd (q2g 0 s=7):=η (by unfold q2g;rw[ξ rfl]);go_enter Tryz.func89,Tryz.ntmps89;go_wp2_with fail;go_ret;exact⟨by rw[j.o];rfl,rfl⟩
 have D:(sd==0)=false:=by simpa using l
 have j:Hd (q2g sd s=y2R (z2O s (bits .xor .u64 14695981039346656037 sd))):=η (by unfold q2g;rw[κ l]);obtain⟨a0,q⟩: ∃a,bits .xor .u64 14695981039346656037 sd=a:=⟨_,rfl⟩
 rw[q] at j;clear l;go_enter Tryz.func89,Tryz.ntmps89;go_wp2_with fail
 go_loopw [5,13] (fun h i W=> ∃k:Nat,k<=s.length/\i= .int .i64 (k:Int)/\h= .int .u64 (z2O (s.take k) a0)/\W=w) (fun _ i _=>s.length-(intOf i).toNat)
 case atStart=>exact⟨0,υ _,rfl,rfl,rfl⟩
 case round=>
  obtain⟨k,E,rfl,rfl,rfl⟩:=hrel;by_cases d:k<s.length
  ·have C:decide ((k:Int)<(s.length:Int))=true:=ζ (by omega)
   have u:=z7i s k d;have v:s.take (k+1)=s.take k++[s.getD k 0]:=by
    rw[List.take_succ_eq_append_getElem d];simp[List.getD,γ d]
   have m:=η (z4y (s.take k) (s.getD k 0) a0);rw[<-v] at m;have G:IntKind.i64.wrap ((k:Int)+1)=(k:Int)+1:=by rw[ν];omega
   obtain⟨b,r⟩: ∃b:Nat,(s.getD k 0).toNat=b:=⟨_,rfl⟩
   have B:b<256:=by rw[<-r];exact(s.getD k 0).toNat_lt
   rw[r] at u m;have I:IntKind.u64.wrap (b:Int)=(b:Int):=by rw[IntKind.wrap_u64];omega
   clear v r;go_wp2_with fail
   go_roundw
   case rel=>exact⟨k+1,by omega,by go_num,by rw[m.o],(by first|rfl|trivial)⟩
   case measure=>simp[intOf];omega
  ·obtain rfl:k=s.length:=by omega
   have x:s.take s.length=s:=List.take_length;rw[x];have y:=η (fun W=>y3Q (z2O s a0) W);clear x;go_wp2_with fail;refine(y.o _).mono ?_;rintro e w1 ⟨rfl,rfl⟩;go_wp2_with fail;go_ret;exact⟨by rw[j.o];rfl,rfl⟩
theorem z8j(e:Ev)(w:World)(he:y0F e):Calls Tryz.prog 126 #[evV e] w fun r w'=>r= .returned (.string ⟨(evB e).toArray⟩)/\Ext w w':=by
 obtain⟨t,d,b⟩:=e;obtain⟨l,U⟩:=he;obtain⟨_,G,I⟩:=q2c l;simp only at l U G I;show Calls _ _ #[.agg #[.string ⟨t.toArray⟩,.string ⟨d.toArray⟩,.float .f64 b]] _ fun r w'=>r= .returned (.string ⟨(q2y t++(q2y d++be 8 b)).toArray⟩)/\Ext w w'
 have E:=η (fun W=>q9c t d .f64 b W (by omega) (by omega));rw[l] at E;have u:=η (fun W=>z7q t W (by omega));have v:=η (fun W=>z7q d W (by omega));have F:=η (fun W=>z5N (b:Int) 8 8 W rfl (by omega) (by omega) (by omega) (by omega));have Z:(q2y t).length<=1000:=by unfold q2y;split<;>simp[q0H];omega
 have l2:(q2y d).length<=1000:=by unfold q2y;split<;>simp[q0H];omega
 have M:=q0H 8 ((b:Int)).toNat;obtain⟨R,m⟩: ∃R,be 8 ((b:Int)).toNat=R:=⟨_,rfl⟩
 rw[m] at F M;rw[Int.toNat_natCast] at m;rw[m];have Y:R.length<=8:=by omega
 have N:=η (q0B w (.cells #[.string ⟨t.toArray⟩,.string ⟨d.toArray⟩,.float .f64 b] 67));have i:=Blk.new w 67 #[.string ⟨t.toArray⟩,.string ⟨d.toArray⟩,.float .f64 b];have k0:(w.alloc (.cells #[.string ⟨t.toArray⟩,.string ⟨d.toArray⟩,.float .f64 b] 67)).cell? ⟨w.heap.size,0,none⟩=some (.string ⟨t.toArray⟩):=i.cell 0;have k1:(w.alloc (.cells #[.string ⟨t.toArray⟩,.string ⟨d.toArray⟩,.float .f64 b] 67)).cell? ⟨w.heap.size,1,none⟩=some (.string ⟨d.toArray⟩):=i.cell 1;have X:(w.alloc (.cells #[.string ⟨t.toArray⟩,.string ⟨d.toArray⟩,.float .f64 b] 67)).cell? ⟨w.heap.size,2,none⟩=some (.float .f64 b):=i.cell 2;have s:=η i;generalize q2y t=A at*;generalize q2y d=D at*;clear i l G I m M;go_enter Tryz.func126,Tryz.ntmps126;go_wp2_with fail;generalize w.alloc (.cells #[.string ⟨t.toArray⟩,.string ⟨d.toArray⟩,.float .f64 b] 67)=w1 at*;generalize w.heap.size=q at*;refine(E.o _).mono ?_;rintro e C ⟨rfl,B⟩;have x:=η (N.o.trans B);have j:=s.o.ext B;have O:C.cell? ⟨q,0,none⟩=some (.string ⟨t.toArray⟩):=j.cell 0;have Q:C.cell? ⟨q,1,none⟩=some (.string ⟨d.toArray⟩):=j.cell 1;have S:C.cell? ⟨q,2,none⟩=some (.float .f64 b):=j.cell 2;have u0:=q0D O;have u1:=q0D Q;have u2:=q0D S;have q1:¬(9223372036854775807<A.length+D.length):=by omega
 have q2:¬(9223372036854775807<(A++D).length+R.length):=by rw[θ];omega
 have q3:¬(9223372036854775807<A.length+D.length+R.length):=by omega
 have V:=q7h b;clear B j k0 k1 X;go_wp2_with fail;refine q0E (by kernel_rfl) (by kernel_rfl) ?_
 repeat (go_big_quiet_step (fail))
 go_big_quiet_step (exact Calls.quiet_ext (u.o _))
 repeat (go_big_quiet_step (fail))
 go_big_quiet_step (exact Calls.quiet_ext (v.o _))
 repeat (go_big_quiet_step (fail))
 go_big_quiet_step (exact Calls.quiet_ext (F.o _))
 repeat (go_big_quiet_step (fail))
 refine wpQuiet_nil ?_;intro w3 J;have y:=η (x.o.trans J);clear J;go_wp2_with fail;go_ret;exact⟨by rw[q3d,q3d];simp,y.o⟩
def y1o(w:World)(mv:Value)(L:List En)(e:Ending)(w':World):Prop:=
 ∃(p z:Nat) (mv':Value) (D:DataW Unit),e= .returned (.agg #[.int .i64 (p:Int),.int .i64 (z:Int),mv'])/\FilK w' p z mv' D/\(∀B,y2x B mv->y2x B mv')/\(∀x∈L,z6z p z D x.1=true)/\Ext w w'
theorem y1V{s:Nat}{D:DataW Unit}{ao:Option Addr}{cap:Nat}{L:List En}(w:World)(hf:FilK w p s mv D)(C:Ens w ao n cap L):
  Calls Tryz.prog 262 #[.agg #[.int .i64 (p:Int),.int .i64 (s:Int),mv],.slice ao n cap] w (y1o w mv L):=by
 have HF:=η hf;have Hx:=η C;have b1:=C.fits;have b2:=C.bound;have j:=η C.len;obtain⟨⟨E,rfl⟩,_⟩:=hf;have G:=Blk.new w 319 #[.int .i64 (p:Int),.int .i64 (s:Int),.map E];have l:=Blk.new (w.alloc (.cells #[.int .i64 (p:Int),.int .i64 (s:Int),.map E] 319)) 319 #[.int .i64 0,.int .i64 0,.map none];rw[ρ] at l;have F:=η (q5q w (.cells #[.int .i64 (p:Int),.int .i64 (s:Int),.map E] 319) (.cells #[.int .i64 0,.int .i64 0,.map none] 319));have X:=G.ext (q0B _ (.cells #[.int .i64 0,.int .i64 0,.map none] 319));have O:=η (fun W=>z6c [] W (by decide));clear C;go_enter Tryz.func262,Tryz.ntmps262;go_wp2_with fail;generalize (w.alloc (.cells #[.int .i64 (p:Int),.int .i64 (s:Int),.map E] 319)).alloc (.cells #[.int .i64 0,.int .i64 0,.map none] 319)=w1 at*;have HA:=η X;have HB:=η l;clear G X l;obtain⟨q,hq⟩: ∃q,w.heap.size=q:=⟨_,rfl⟩
 rw[hq] at HA HB;have HQ:Hd (w.heap.size=q):=η hq;rw[hq];clear hq
 go_loopw [9] (fun i W=> ∃k:Nat,k<=n/\i= .int .i64 (k:Int)/\(∀x∈L.take k,z6z p s D x.1=true)/\Ext w1 W) (fun i _=>n-(intOf i).toNat)
 case atStart=>exact⟨0,υ _,rfl,(fun x C=>by cases C),Ext.refl _⟩
 case round=>
  obtain⟨k,hk,rfl,u,Q⟩:=hrel;have N:=η Q;have r:=η u;have G:=HA.o.ext Q;have l:=HB.o.ext Q;have a0:wr.cell? ⟨q,0,none⟩=some (Value.int .i64 (p:Int)):=G.cell 0;have a1:wr.cell? ⟨q,1,none⟩=some (Value.int .i64 (s:Int)):=G.cell 1;have a2:wr.cell? ⟨q,2,none⟩=some (Value.map E):=G.cell 2;by_cases y:k<n
  ·have hd:decide ((k:Int)<(n:Int))=true:=by simp;omega
   obtain⟨b,off,rfl,c0,c1,c2⟩:=(Hx.o.ext (F.o.trans Q)).at y;have hL:L.take (k+1)=L.take k++[L.getD k en0]:=by
    rw[List.take_succ_eq_append_getElem (by rw[j.o];exact y)];simp[List.getD,γ (show k<L.length by rw[j.o];exact y)]
   have d0:L.getD k en0∈L:=by
    simp[List.getD,γ (show k<L.length by rw[j.o];exact y)]
   have h0:=η hL;generalize L.getD k en0=z at*;obtain⟨J,U,V⟩:=z;have g0:=η (HF.o.ext (F.o.trans Q));have f0:=η l;have I:=G.ext (q0B wr (.cells #[.int .u64 J,.int .i64 U,.int .i64 V] 165));have x0:(wr.alloc (.cells #[.int .u64 J,.int .i64 U,.int .i64 V] 165)).cell? ⟨q,0,none⟩=some (Value.int .i64 (p:Int)):=I.cell 0;have x1:(wr.alloc (.cells #[.int .u64 J,.int .i64 U,.int .i64 V] 165)).cell? ⟨q,1,none⟩=some (Value.int .i64 (s:Int)):=I.cell 1;have x2:(wr.alloc (.cells #[.int .u64 J,.int .i64 U,.int .i64 V] 165)).cell? ⟨q,2,none⟩=some (Value.map E):=I.cell 2;clear G I l Q u hL d0;go_wp2_with fail;have hm:=y0A (p:=p) (s:=s) (mv:= .map E) (D:=D) J (wr.alloc (.cells #[.int .u64 J,.int .i64 U,.int .i64 V] 165)) (g0.o.ext (q0B _ _));refine hm.mono ?_;rintro e w5 ⟨rfl,Y⟩;have M:=η ((q0B wr (.cells #[.int .u64 J,.int .i64 U,.int .i64 V] 165)).trans Y);clear hm Y a0 a1 a2 c0 c1 c2 x0 x1 x2
   cases hmz:z6z p s D J with
   | true=>
    have i0:=η hmz;clear hmz;go_wp2_with fail
    go_roundw
    case rel=>exact⟨k+1,y,by go_num,(fun x C=>by rw[h0.o] at C;rcases List.mem_append.1 C with h|h;exact r.o x h;rw[Γ] at h;rw[h];exact i0.o),N.o.trans M.o⟩
    case measure=>simp[intOf];omega
   | false=>
    clear hmz;go_wp2_with fail;refine(O.o _).mono ?_;rintro e w6 ⟨p',z',o0,D',rfl,Z,k0,e0,R⟩;obtain⟨m0,l0⟩:=e0 (by decide);subst m0;subst l0;have n0:=η Z;have d:=f0.o.ext (M.o.trans R);have r0:w6.cell? ⟨q+1,0,none⟩=some (Value.int .i64 0):=d.cell 0;have r1:w6.cell? ⟨q+1,1,none⟩=some (Value.int .i64 0):=d.cell 1;have r2:w6.cell? ⟨q+1,2,none⟩=some (Value.map none):=d.cell 2;have y0:=d.free 0;have y1:=d.free 1;have y2:=d.free 2;have j0:=η (F.o.trans (N.o.trans (M.o.trans R)));clear Z R d k0 e0;go_wp2_with fail
    (try simp only[Exit.inBlock,Exit.then])
    refine bodyPost_ret (v:= .agg #[.int .i64 0,.int .i64 (z':Int),.map none]) (by rw[q1I rfl];go_simp) rfl ?_;have S:OffS (fun i=>i=q+1) w6 (((w6.setCell ⟨q+1,0,none⟩ (.int .i64 0)).setCell ⟨q+1,1,none⟩ (.int .i64 (z':Int))).setCell ⟨q+1,2,none⟩ (.map none)):=by
     refine OffS.trans (OffS.trans (OffS.set _ ?_ _ _) (OffS.set _ ?_ _ _)) (OffS.set _ ?_ _ _)<;>rfl
    have hX:=S.ext j0.o (fun i hi=>by rw[hi,HQ.o];omega);exact⟨0,z',.map none,D',rfl,⟨⟨none,rfl⟩,.inl ⟨rfl,rfl⟩⟩,(fun B h m hm=>by cases hm),(fun x _=>rfl),hX⟩
  ·have hd:decide ((k:Int)<(n:Int))=false:=by simp;omega
   have b0:L.take k=L:=by rw[Δ];rw[j.o];omega
   rw[b0] at r;have r0:wr.cell? ⟨q+1,0,none⟩=some (Value.int .i64 0):=l.cell 0;have r1:wr.cell? ⟨q+1,1,none⟩=some (Value.int .i64 0):=l.cell 1;have r2:wr.cell? ⟨q+1,2,none⟩=some (Value.map none):=l.cell 2;have y0:=l.free 0;have y1:=l.free 1;have y2:=l.free 2;clear G l Q u b0;go_wp2_with fail
   (try simp only[Exit.inBlock,Exit.then])
   refine bodyPost_ret (v:= .agg #[.int .i64 (p:Int),.int .i64 (s:Int),.map E]) (by rw[q1I rfl];go_simp) rfl ?_;have S:OffS (fun i=>i=q+1) wr (((wr.setCell ⟨q+1,0,none⟩ (.int .i64 (p:Int))).setCell ⟨q+1,1,none⟩ (.int .i64 (s:Int))).setCell ⟨q+1,2,none⟩ (.map E)):=by
    refine OffS.trans (OffS.trans (OffS.set _ ?_ _ _) (OffS.set _ ?_ _ _)) (OffS.set _ ?_ _ _)<;>rfl
   have hX:=S.ext (F.o.trans N.o) (fun i hi=>by rw[hi,HQ.o];omega);exact⟨p,s,.map E,D,rfl,HF.o.ext hX,fun B h=>h,r.o,hX⟩
end
end Go.Proofs.YtfiibpgoplcgkaaGreatDoor
