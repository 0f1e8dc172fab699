/- Walks. -/
import Derived.Test.YtfiibpgoplcgkaaGreatDoorG19SY
import Derived.Test.YtfiibpgoplcgkaaGreatDoorG9SY
import Derived.Test.YtfiibpgoplcgkaaGreatDoorG18SY
import Derived.Test.YtfiibpgoplcgkaaGreatDoorG21SY
set_option linter.unusedVariables false
set_option linter.unusedSimpArgs false
set_option maxRecDepth 100000
set_option maxHeartbeats 6400000
namespace Go.Proofs.YtfiibpgoplcgkaaGreatDoor
variable {v mv:Value}{w w':World}{n k p B:Nat}{f:Nat->Bool}{L:List (List Int)}{tO tI:TypeId}{vs:List Value}
section
open Go.RowKit
def pgE(v:Value):Option (DataW Unit×List MemPlace):=
 match v with
 | .string s=>if s.size=60 then some (.lit (.string s.data.toList),[]) else none
 |_=>none
theorem y2G{l:List UInt8}(h:l.length=60):pgE (.string ⟨l.toArray⟩)=some (.lit (.string l),[]):=by
 unfold pgE;have:(⟨l.toArray⟩:ByteArray).size=60:=h;simp only[this,if_true]
theorem y0h{y:DataW Unit×List MemPlace}(h:pgE v=some y): ∃l:List UInt8,l.length=60/\v= .string ⟨l.toArray⟩/\y=(.lit (.string l),[]):=by
 unfold pgE at h
 split at h
 ·rename_i s
  split at h
  ·rename_i b
   refine⟨s.data.toList,by simpa using b,by simp,by simpa using h.symm⟩
  ·cases h
 ·cases h
theorem y3F :Maps.Keyed Tryz.prog 3:=Maps.int_keyed Tryz.underlying3
theorem y2x(w:World):(zeroValue 9).run Tryz.prog w= .ok (.string ⟨#[]⟩) w:=by kernel_rfl
theorem y1e{x:Int}(i:0<=x)(j:x<=1000000000000):keyOf Tryz.prog 3 (.int .i64 x)=some (.int .i64 x):=by
 refine Maps.keyOf_int_mk Tryz.underlying3 ?_;have b:IntKind.i64.min= -9223372036854775808:=by kernel_rfl
 have d:IntKind.i64.max=9223372036854775807:=by kernel_rfl
 simp only[Lit.wf,b,d];simp;omega
abbrev Pgs(w:World)(m n:Nat)(D:DataW Unit):Prop:=w.ownsMap Tryz.prog 3 pgE m n D
def z6j(D:DataW Unit)(k:Int):Option (List UInt8):=match D.atKey (.int .i64 k) .nil with| .lit (.string l)=>some l|_=>none
theorem z6m{m:Nat}{D:DataW Unit}(h:Pgs w m n D){k:Int}(o:0<=k)(s:k<=1000000000000):
  (z6j D k=none/\(Instr.lookup 317 (.map (some m)) (.int .i64 k) true).run Tryz.prog w= .ok (.tuple #[.string ⟨#[]⟩,.bool false]) w)\/
  ∃l,z6j D k=some l/\l.length=60/\(Instr.lookup 317 (.map (some m)) (.int .i64 k) true).run Tryz.prog w= .ok (.tuple #[.string ⟨l.toArray⟩,.bool true]) w:=by
 obtain⟨es,i,u,F,_,rfl⟩:=h;rcases Maps.fit_look true y3F Tryz.underlying317 (y2x w) u F (y1e o s) with⟨b,_,d⟩|⟨x,y,_,_,b,j,d,_⟩
 ·exact .inl ⟨by unfold z6j;rw[d],b⟩
 ·obtain⟨l,q,r,rfl⟩:=y0h j
  refine .inr ⟨l,by unfold z6j;rw[d],q,?_⟩;rw[<-r];exact b
def y0z(D:DataW Unit)(z:Int):Bool:=
 match z6j D (z/8/60) with
 |none=>true
 |some l=>!(bits .and .u8 ((l.getD (z/8 % 60).toNat 0).toNat:Int) (IntKind.u8.wrap (2^(z % 8).toNat))==0)
def z7Q(s:Nat)(D:DataW Unit)(h:Int)(i:Nat):Bool:=y0z D (q6W h i (8*s:Nat))
def z6W(p s:Nat)(D:DataW Unit)(h:Int):Bool:=(List.range p).all (z7Q s D h)
def FilK(w:World)(p s:Nat)(mv:Value)(D:DataW Unit):Prop:=
 (∃mo,mv= .map mo)/\((p=0/\mv= .map none)\/(p<=16/\1<=s/\s<=120000/\s % 60=0/\ ∃m n,mv= .map (some m)/\Pgs w m n D))
theorem FilK.ext{s:Nat}{D:DataW Unit}(h:FilK w p s mv D)(k:Ext w w'):FilK w' p s mv D:=by
 obtain⟨d,b|⟨b,j,l,o,m,n,q,i⟩⟩:=h
 ·exact⟨d,.inl b⟩
 ·refine⟨d,.inr ⟨b,j,l,o,m,n,q,q2Q i (k.block m ?_)⟩⟩
  exact i.lt
theorem z7G(l:List UInt8)(j:Nat)(b:j<l.length): ∀W,(Instr.index 9 (.string ⟨l.toArray⟩) (.int .i64 (j:Int))).run Tryz.prog W= .ok (.int .u8 ((l.getD j 0).toNat:Int)) W:=fun W=>by
 have d:(⟨l.toArray⟩:ByteArray).size=l.length:=rfl;rw[run_index_string W 9 ⟨l.toArray⟩ .i64 (j:Int) Tryz.underlying9,dif_pos (by rw[d];omega)]
 congr 3
 simp[List.getD,b]
 rfl
theorem z7h(h:(List.range k).all f=true):(List.range (k+1)).all f=f k:=by
 rw[List.range_succ,List.all_append,h];simp
theorem z5Q(b:k<p)(h:f k=false):(List.range p).all f=false:=by
 rw[List.all_eq_false];exact⟨k,List.mem_range.2 b,by rw[h];decide⟩
theorem z9U{s:Nat}{D:DataW Unit}(h:Int)(w:World)(R:FilK w p s mv D):Calls Tryz.prog 278 #[.agg #[.int .i64 (p:Int),.int .i64 (s:Int),mv],.int .u64 h] w fun r w'=>r= .returned (.bool (z6W p s D h))/\Ext w w':=by
 have i0:=η R;obtain⟨⟨mo,rfl⟩,R⟩:=R;have HF:=η R;clear R;have I:=Blk.new w 319 #[.int .i64 (p:Int),.int .i64 (s:Int),.map mo];have G:=η (q0B w (.cells #[.int .i64 (p:Int),.int .i64 (s:Int),.map mo] 319));have a0:Hd (∀W,Ext (w.alloc (.cells #[.int .i64 (p:Int),.int .i64 (s:Int),.map mo] 319)) W->W.cell? ⟨w.heap.size,1,none⟩=some (.int .i64 (s:Int))/\W.cell? ⟨w.heap.size,2,none⟩=some (.map mo)):=η fun W k=>⟨q0A k (I.cell 1),q0A k (I.cell 2)⟩
 clear I;go_enter Tryz.func278,Tryz.ntmps278;go_wp2_with fail;generalize w.alloc (.cells #[.int .i64 (p:Int),.int .i64 (s:Int),.map mo] 319)=w1 at*;generalize w.heap.size=q at*
 go_loopw [11] (fun i W=> ∃k:Nat,k<=p/\i= .int .i64 (k:Int)/\(List.range k).all (z7Q s D h)=true/\Ext w1 W) (fun i _=>p-(intOf i).toNat)
 case atStart=>exact⟨0,υ _,rfl,rfl,Ext.refl _⟩
 case round=>
  obtain⟨k,hk,rfl,u,Q⟩:=hrel;have F:=η Q;have O:=η u;by_cases J:k<p
  ·have hd:decide ((k:Int)<(p:Int))=true:=by simp;omega
   obtain⟨c1,c2⟩:=a0.o _ Q;obtain⟨j0,s1,s9,k0,m,n,e,M⟩:p<=16/\1<=s/\s<=120000/\s % 60=0/\ ∃m n,Value.map mo= .map (some m)/\Pgs w m n D:=by
    rcases HF.o with⟨h0,_⟩|h0
    ·omega
    ·exact h0
   cases e;have E:Pgs wr m n D:=q2Q M ((G.o.trans Q).block m M.lt);have e1:IntKind.i64.wrap (8*(s:Int))=((8*s:Nat):Int):=by rw[ν];omega
   have N:=z1A h k ((8*s:Nat):Int) (by omega);have Z:=η (fun W=>y0l W h k (8*s) (by omega) (by omega) (by omega));have b:Hd (z7Q s D h k=y0z D (q6W h k ((8*s:Nat):Int))):=η rfl;have x:=η (z7h (f:=z7Q s D h) u);obtain⟨z,hz⟩: ∃z,q6W h k ((8*s:Nat):Int)=z:=⟨_,rfl⟩
   rw[hz] at N Z b;obtain⟨B,hB⟩: ∃B:Int,((8*s:Nat):Int)=B:=⟨_,rfl⟩
   rw[hB] at e1 Z;have z9:z<960001:=by omega
   have z0:=N.1;have e2:Int.tdiv z 8=z/8:=Int.tdiv_eq_ediv_of_nonneg z0;have e3:IntKind.i64.wrap (z/8)=z/8:=by rw[ν];omega
   have e4:Int.tdiv (z/8) 60=z/8/60:=Int.tdiv_eq_ediv_of_nonneg (by omega);have e5:IntKind.i64.wrap (z/8/60)=z/8/60:=by rw[ν];omega
   have U:=z6m E (k:=z/8/60) (by omega) (by omega);obtain⟨pg,y⟩: ∃pg,z/8/60=pg:=⟨_,rfl⟩
   unfold y0z at b;rw[y] at U e4 e5 b;clear Q u M E N hz hB;rcases U with⟨V,X⟩|⟨l,V,g0,X⟩
   ·rw[V] at b
    clear V y;go_wp2_with fail;refine(Z.o _).mono ?_;rintro e w2 ⟨rfl,rfl⟩;go_wp2_with fail;refine q0D (by kernel_rfl) (by kernel_rfl) ?_
    repeat (go_big_quiet_step (fail))
    refine wpQuiet_nil ?_;intro w5 Y;have C:=η (F.o.trans Y);clear Y;go_wp2_with fail
    go_roundw
    case rel=>exact⟨k+1,J,by go_num,by rw[x.o];exact b.o,C.o⟩
    case measure=>simp[intOf];omega
   ·rw [V] at b
    have e6:Int.tmod (z/8) 60=z/8 % 60:=Int.tmod_eq_emod_of_nonneg (by omega);obtain⟨j,hj⟩: ∃j:Nat,z/8 % 60=(j:Int):=⟨(z/8 % 60).toNat,by omega⟩
    have f0:j<60:=by omega
    have c0:j<l.length:=by omega
    rw[hj] at e6 b;have e7:IntKind.i64.wrap (j:Int)=(j:Int):=by rw[ν];omega
    have e8:Int.tmod z 8=z % 8:=Int.tmod_eq_emod_of_nonneg z0;obtain⟨r,hr⟩: ∃r,z % 8=r:=⟨_,rfl⟩
    have r0:0<=r:=by omega
    have r8:r<8:=by omega
    rw[hr] at e8 b;have e9:IntKind.i64.wrap r=r:=by rw[ν];omega
    have S:=z7G l j c0;have HJ:Hd ((j:Int).toNat=j):=η (by omega);rw[HJ.o] at b;obtain⟨cv,hcv⟩: ∃cv:Int,((l.getD j 0).toNat:Int)=cv:=⟨_,rfl⟩
    rw[hcv] at S;have d:Hd (z7Q s D h k=!(bits .and .u8 cv (IntKind.u8.wrap (2^r.toNat))==0)):=η (by rw[b.o];simp only;rw[hcv]);clear b;clear V y hr hcv;go_wp2_with fail;refine(Z.o _).mono ?_;rintro e w2 ⟨rfl,rfl⟩;go_wp2_with fail;refine wp_region_still_lit (by kernel_rfl) (by kernel_rfl) ?_
    repeat still_step
    refine wpStill_nil ?_;have C:=η (F.o.drew);clear hj e6 e7 e8 e9 S;obtain⟨tb,e0⟩: ∃tb,(bits .and .u8 cv (IntKind.u8.wrap (2^r.toNat))==0)=tb:=⟨_,rfl⟩
    rw[e0] at d
    cases tb with
    | true=>
     have b0:Hd (z6W p s D h=false):=η (z5Q J d.o);go_wp2_with fail;go_ret;exact⟨rb b0.o,G.o.trans C.o⟩
    | false=>
     go_wp2_with fail
     go_roundw
     case rel=>exact⟨k+1,J,by go_num,by rw[x.o];exact d.o,C.o⟩
     case measure=>simp[intOf];omega
  ·have hd:decide ((k:Int)<(p:Int))=false:=by simp;omega
   have d0:k=p:=by omega
   subst d0;clear Q u;go_wp2_with fail;go_ret;exact⟨rb O.o,G.o.trans F.o⟩
theorem q1F{fn:Func}{p:Tmp}{ty:TypeId}(h:fn.results=#[.cell p ty])(tmps:Array Value)(P:Program)(w:World):
  (results fn tmps).run P w=((asAddr (tmps.getD p undef)).run P w).andThen fun a w₁=>(loadVar ty a).run P w₁:=by
 simp only[results,h];simp[Sem.run_bind,Result.andThen]
def y2Z(B:Nat)(mv:Value):Prop:= ∀m,mv= .map (some m)->B<=m
def y1J(w:World)(s:List UInt8)(e:Ending)(w':World):Prop:=
 ∃(p z:Nat) (mv:Value) (D:DataW Unit),e= .returned (.agg #[.int .i64 (p:Int),.int .i64 (z:Int),mv])/\FilK w' p z mv D/\y2Z w.heap.size mv/\(s.length<64->p=0/\mv= .map none)/\Ext w w'
theorem z6E(s : List UInt8)(w:World)(hl:s.length<=1048576):Calls Tryz.prog 263 #[.string ⟨s.toArray⟩] w (y1J w s):=by
 have o0:=Blk.new w 319 #[.int .i64 0,.int .i64 0,.map none];have l0:=η (q0B w (.cells #[.int .i64 0,.int .i64 0,.map none] 319));by_cases K0:s.length<64
 ·have hd:decide ((s.length:Int)<64)=true:=by simp;omega
  go_enter Tryz.func263,Tryz.ntmps263;go_wp2_with fail
  (try simp only[Exit.inBlock,Exit.then])
  refine bodyPost_ret (v:= .agg #[.int .i64 0,.int .i64 0,.map none]) (by rw[q1F rfl];go_simp) rfl ?_;exact⟨0,0,.map none,.map [],rfl,⟨⟨none,rfl⟩,.inl ⟨rfl,rfl⟩⟩,(fun m h=>by cases h),fun _=>⟨rfl,rfl⟩,l0.o⟩
 ·have hd : decide ((s.length:Int)<64)=false:=by simp;omega
  have s1:=q4m s 64 64 rfl (by omega);obtain⟨F,hF⟩: ∃F,s.take 64=F:=⟨_,rfl⟩
  have lF:F.length=64:=by rw[<-hF,Θ];omega
  rw[hF] at s1;have s2:=q2i F 4 8 4 8 rfl rfl (by omega) (by omega) (X:=(F.take 8).drop 4) rfl;obtain⟨X,hX⟩: ∃X,(F.take 8).drop 4=X:=⟨_,rfl⟩
  have lX:X.length=4:=by rw[<-hX];simp;omega
  rw[hX] at s2;have s0: ∀W,(Instr.index 9 (.string ⟨F.toArray⟩) (.int .i64 3)).run Tryz.prog W= .ok (.int .u8 ((F.getD 3 0).toNat:Int)) W:=z7G F 3 (by omega);obtain⟨p,hp⟩: ∃p:Nat,(F.getD 3 0).toNat=p:=⟨_,rfl⟩
  have w0:p<=255:=by rw[<-hp];have:=(F.getD 3 0).toNat_lt;omega
  rw[hp] at s0;have e1:IntKind.i64.wrap (p:Int)=(p:Int):=by rw[ν];omega
  have HG:=η (fun W=>q9W X W (by omega));have bX:=q2G (X.take 8);rw[Δ (by omega)] at HG bX;rw[lX] at bX;obtain⟨z,hz⟩: ∃z:Nat,q1N X=z:=⟨_,rfl⟩
  rw[hz] at HG bX;have bz:z<4294967296:=bX;have e2:IntKind.i64.wrap (z:Int)=(z:Int):=by rw[ν];omega
  have LX:X.length<=9223372036854775807:=by omega
  have HM:=η (fun W=>y2n (z:Int) (p:Int) W (by omega) (by omega));have HH:=η (fun W=>y1d z p W (by omega) w0);have D0:=η lF;clear hF hX hz hp bX lF lX;go_enter Tryz.func263,Tryz.ntmps263;go_wp2_with fail;refine q0D (by kernel_rfl) (by kernel_rfl) ?_
  repeat (go_big_quiet_step (fail))
  go_big_quiet_step (exact Calls.quiet_ext (HG.o _))
  repeat (go_big_quiet_step (fail))
  refine wpQuiet_nil ?_;intro w2 c0;have S:=η (l0.o.trans c0);have j:=o0.ext c0;clear c0 HG o0 s0 s1 s2
  cases hm:z1y (z:Int) (p:Int) with
  | false=>
   rw[hm] at HM;go_wp2_with fail;refine(HM.o _).mono ?_;rintro e q ⟨rfl,rfl⟩;have r0:w2.cell? ⟨w.heap.size,0,none⟩=some (Value.int .i64 0):=j.cell 0;have r1:w2.cell? ⟨w.heap.size,1,none⟩=some (Value.int .i64 0):=j.cell 1;have r2:w2.cell? ⟨w.heap.size,2,none⟩=some (Value.map none):=j.cell 2;have y0:=j.free 0;have y1:=j.free 1;have y2:=j.free 2;go_wp2_with fail
   (try simp only[Exit.inBlock,Exit.then])
   refine bodyPost_ret (v:= .agg #[.int .i64 0,.int .i64 0,.map none]) (by rw[q1F rfl];go_simp) rfl ?_;refine⟨0,0,.map none,.map [],rfl,⟨⟨none,rfl⟩,.inl ⟨rfl,rfl⟩⟩,(fun m h=>by cases h),fun _=>⟨rfl,rfl⟩,?_⟩
   repeat (first|refine Below.setCell ?_ (by first|exact ι _|(simp;done)|(simp;omega)) _|refine Ext.alloc ?_ _|refine Ext.drew ?_)
   exact S.o
  | true =>
   rw[hm] at HM;have v0:0<z/\z<=120000/\z % 60=0/\1<=p/\p<=16:=by unfold z1y at hm;simp at hm;omega
   go_wp2_with fail;refine(HM.o _).mono ?_;rintro e q ⟨rfl,rfl⟩;go_wp2_with fail;refine(HH.o _).mono ?_;rintro e q ⟨rfl,Z⟩;have U:=η (S.o.trans Z);have l:=j.ext Z;clear Z HM HH j hm e1 e2 LX D0;obtain⟨HD,n0⟩: ∃HD,z8Y z p=HD:=⟨_,rfl⟩
   rw[n0];by_cases q0:F=HD
   ·subst q0
    have p0:(F==F)=true:=by simp
    have N0:=@run_makeMap Tryz.prog;obtain⟨g,hg⟩: ∃g,z=60*g:=⟨z/60,by omega⟩
    have e3:Int.tdiv (z:Int) 60=(g:Int):=by rw[Int.tdiv_eq_ediv_of_nonneg (by omega)];omega
    have e4:IntKind.i64.wrap (g:Int)=(g:Int):=by rw[ν];omega
    have g9:g<=2000:=by omega
    have HZ:=η hg;have F0:=η v0;clear hg v0 n0 w0 bz;go_wp2_with fail;have x0:=l.lt;have a0:=((World.ownsMap_made (H:=Unit) q Tryz.prog 3 pgE).alloc (.cells #[.int .i64 (p:Int),.int .i64 (z:Int),.map (some q.heap.size)] 319))
    have M:=Blk.new (q.alloc (.map #[] 0)) 319 #[.int .i64 (p:Int),.int .i64 (z:Int),.map (some q.heap.size)];rw[ρ] at M;have m0:=l.ext (q5Z q (.map #[] 0) (.cells #[.int .i64 (p:Int),.int .i64 (z:Int),.map (some q.heap.size)] 319));have A0:=U.o.trans (q5Z q (.map #[] 0) (.cells #[.int .i64 (p:Int),.int .i64 (z:Int),.map (some q.heap.size)] 319));obtain⟨m,hm⟩: ∃m,q.heap.size=m:=⟨_,rfl⟩
    have u0:w.heap.size<m:=by rw[<-hm];exact x0
    generalize O0:(q.alloc (.map #[] 0)).alloc (.cells #[.int .i64 (p:Int),.int .i64 (z:Int),.map (some q.heap.size)] 319)=w4 at*;rw[hm] at a0 M;rw[hm];clear hm x0;have E0:=η a0;have B0:=η M;have G0:=η m0;have I0:=η A0;clear a0 M m0 A0 U S N0 p0;have d0:Hd (∀(V W:World) (D:DataW Unit) (n:Nat),Pgs V m n D->Ext w V->OffS (fun i=>i=w.heap.size) V W->y1J w s (.returned (.agg #[.int .i64 (p:Int),.int .i64 (z:Int),.map (some m)])) W):=η fun V W D n h1 h2 h3=>by
     obtain⟨a1,a2,a3,a4,a5⟩:=F0.o;exact⟨p,z,_,D,rfl,⟨⟨_,rfl⟩,.inr ⟨a5,a1,a2,a3,m,n,rfl,q2Q h1 (h3.block m h1.lt (by omega))⟩⟩,(fun m' h=>by cases h;exact Nat.le_of_lt u0),(fun h=>absurd h K0),h3.ext h2 fun i hi=>by rw[hi];exact ι _⟩
    go_loopw [42] (fun i W=> ∃k n:Nat,∃D,k<=g/\n<=k/\i= .int .i64 (k:Int)/\Pgs W m n D/\Blk W (m+1) 319 #[.int .i64 (p:Int),.int .i64 (z:Int),.map (some m)]/\Blk W w.heap.size 319 #[.int .i64 0,.int .i64 0,.map none]/\Ext w W) (fun i _=>g-(intOf i).toNat)
    case atStart=>exact⟨0,0,_,υ _,ι _,rfl,E0.o,B0.o,G0.o,I0.o⟩
    case round=>
     obtain⟨k,n,D,hk,hn,rfl,y,d,b,hb⟩:=hrel;have I:=η hb;by_cases t0:k<g
     ·have L0:decide ((k:Int)<(g:Int))=true:=by simp;omega
      have e5:IntKind.i64.wrap ((k:Int)+1)=(k:Int)+1:=by rw[ν];omega
      obtain⟨A,hA⟩: ∃A:Int,((k:Int)+1)*64=A:=⟨_,rfl⟩
      obtain⟨a,ha⟩: ∃a:Nat,(k+1)*64=a:=⟨_,rfl⟩
      have J:A=(a:Int):=by omega
      have e6:IntKind.i64.wrap (((k:Int)+1)*64)=A:=by rw[ν];omega
      have e7:IntKind.i64.wrap (A+64)=A+64:=by rw[ν];omega
      by_cases N:(s.length:Int)<A+64
      ·have M0:decide ((s.length:Int)<A+64)=true:=ζ N
       clear hA ha J N;have r0:wr.cell? ⟨w.heap.size,0,none⟩=some (Value.int .i64 0):=b.cell 0;have r1:wr.cell? ⟨w.heap.size,1,none⟩=some (Value.int .i64 0):=b.cell 1;have r2:wr.cell? ⟨w.heap.size,2,none⟩=some (Value.map none):=b.cell 2;have y0:=b.free 0;have y1:=b.free 1;have y2:=b.free 2;have b0:wr.cell? ⟨m+1,0,none⟩=some (Value.int .i64 (p:Int)):=d.cell 0;have b1:wr.cell? ⟨m+1,1,none⟩=some (Value.int .i64 (z:Int)):=d.cell 1;have b2:wr.cell? ⟨m+1,2,none⟩=some (Value.map (some m)):=d.cell 2;have r:=η y;clear y hb d b;go_wp2_with fail
       (try simp only[Exit.inBlock,Exit.then])
       refine bodyPost_ret (v:= .agg #[.int .i64 (p:Int),.int .i64 (z:Int),.map (some m)]) (by rw[q1F rfl];go_simp) rfl ?_;refine d0.o _ _ _ _ r.o I.o ?_;refine OffS.trans (OffS.trans (OffS.set _ ?_ _ _) (OffS.set _ ?_ _ _)) (OffS.set _ ?_ _ _)<;>rfl
      ·have M0:decide ((s.length:Int)<A+64)=false:=ε N
       have z0:=q2i s A (A+64) a (a+64) J (by rw[J];push_cast;rfl) (by omega) (by omega) (X:=(s.drop a).take 64) (by rw[List.drop_take];congr 1;omega);obtain⟨Y,hY⟩: ∃Y,(s.drop a).take 64=Y:=⟨_,rfl⟩
       have lY:Y.length=64:=by rw[<-hY,Θ,List.length_drop];omega
       rw[hY] at z0;have HO:=η (fun W=>z3Y Y W (by omega));have hT:q2F Y=true->(q1s Y).length=60:=fun h=>by unfold q1s;rw[ξ h,Θ];omega
       generalize q1s Y=YT at*;have r:=η y;have f0:=η d;have k0:=η b;clear hA ha hY y hb d b lY J N;go_wp2_with fail;refine(HO.o _).mono ?_;rintro e w5 ⟨rfl,C⟩;have e0:=η (I.o.trans C);have R:Hd (Pgs w5 m n D):=η (q2Q r.o (C.block m r.o.lt));have E:=f0.o.ext C;have Q:=η E;have j0:=η (k0.o.ext C);have b2:w5.cell? ⟨m+1,2,none⟩=some (Value.map (some m)):=E.cell 2;clear C HO E r f0 k0 I z0
       cases hob:q2F Y with
       | false=>
        go_wp2_with fail
        go_roundw
        case rel=>exact⟨k+1,n,D,t0,by omega,by go_num,R.o,Q.o,j0.o,e0.o⟩
        case measure=>simp[intOf];omega
       | true=>
        have h0:=η (y1e (x:=(k:Int)) (by omega) (by omega));have J0:=η (y2G (hT hob));clear hT
        go_wp2_with (at_mapUpdate;refine wpList_mapUpdate_in _ rfl _ _ _ 317 rfl 3 9 y3F Tryz.underlying317 pgE m n D rfl R.o (by unfold maxLen;omega) _ _ (.int .i64 (k:Int)) rfl rfl h0.o (.lit (.string YT)) [] J0.o ?_;intro w6 G u)
        have O:OffS (fun i=>i=m) w5 w6:=OffS.turned u rfl;have C0:Hd (Ext w w6):=η (O.ext e0.o fun i hi=>by rw[hi];exact Nat.le_of_lt u0);have g0:=η (O.blk Q.o (by omega));have H0:=η (O.blk j0.o (by omega));have i0:Hd (Pgs w6 m (n+1) _):=η G;clear O G u b2;go_wp2_with fail
        go_roundw
        case rel=>exact⟨k+1,n+1,_,t0,by omega,by go_num,i0.o,g0.o,H0.o,C0.o⟩
        case measure=>simp[intOf];omega
     ·have L0:decide ((k:Int)<(g:Int))=false:=by simp;omega
      have r0:wr.cell? ⟨w.heap.size,0,none⟩=some (Value.int .i64 0):=b.cell 0;have r1:wr.cell? ⟨w.heap.size,1,none⟩=some (Value.int .i64 0):=b.cell 1;have r2:wr.cell? ⟨w.heap.size,2,none⟩=some (Value.map none):=b.cell 2;have y0:=b.free 0;have y1:=b.free 1;have y2:=b.free 2;have b0:wr.cell? ⟨m+1,0,none⟩=some (Value.int .i64 (p:Int)):=d.cell 0;have b1:wr.cell? ⟨m+1,1,none⟩=some (Value.int .i64 (z:Int)):=d.cell 1;have b2:wr.cell? ⟨m+1,2,none⟩=some (Value.map (some m)):=d.cell 2;have r:=η y;clear y hb d b;go_wp2_with fail
      (try simp only[Exit.inBlock,Exit.then])
      refine bodyPost_ret (v:= .agg #[.int .i64 (p:Int),.int .i64 (z:Int),.map (some m)]) (by rw[q1F rfl];go_simp) rfl ?_;refine d0.o _ _ _ _ r.o I.o ?_;refine OffS.trans (OffS.trans (OffS.set _ ?_ _ _) (OffS.set _ ?_ _ _)) (OffS.set _ ?_ _ _)<;>rfl
   ·have p0:(F==HD)=false:=by simpa using q0
    have r0:q.cell? ⟨w.heap.size,0,none⟩=some (Value.int .i64 0):=l.cell 0;have r1:q.cell? ⟨w.heap.size,1,none⟩=some (Value.int .i64 0):=l.cell 1;have r2:q.cell? ⟨w.heap.size,2,none⟩=some (Value.map none):=l.cell 2;have y0:=l.free 0;have y1:=l.free 1;have y2:=l.free 2;go_wp2_with fail
    (try simp only[Exit.inBlock,Exit.then])
    refine bodyPost_ret (v:= .agg #[.int .i64 0,.int .i64 0,.map none]) (by rw[q1F rfl];go_simp) rfl ?_;refine⟨0,0,.map none,.map [],rfl,⟨⟨none,rfl⟩,.inl ⟨rfl,rfl⟩⟩,(fun m h=>by cases h),fun _=>⟨rfl,rfl⟩,?_⟩
    repeat (first|refine Below.setCell ?_ (by first|exact ι _|(simp;done)|(simp;omega)) _|refine Ext.alloc ?_ _|refine Ext.drew ?_)
    exact U.o
theorem q5a(b:Nat)(W:World):(callFunc 185 #[.float .f64 b]).run Tryz.prog W= .ok (.value (.int .u64 b)) W:=by kernel_rfl
theorem z0e(n:Nat)(W:World):(callFunc 189 #[.int .u64 (n:Int)]).run Tryz.prog W= .ok (.value (.float .f64 n)) W:=by kernel_rfl
theorem y2o(h:Int)(w:World):Calls Tryz.prog 151 #[.int .u64 h] w fun e w'=>e= .returned (.int .u64 (y1r h))/\w=w':=by
 go_enter Tryz.func151,Tryz.ntmps151;go_wp2_with fail;go_ret;exact⟨rfl,rfl⟩
theorem y1E(a b:Int):0<=bits .xor .u64 a b/\bits .xor .u64 a b<18446744073709551616:=by
 unfold bits;rw[IntKind.wrap_u64];omega
theorem z4j(h:Int):0<=y1r h/\y1r h<18446744073709551616:=y1E _ _
theorem z1r(sd:Int)(s:List UInt8):0<=q2V sd s/\q2V sd s<18446744073709551616:=by
 unfold q2V
 split
 ·omega
 ·exact z4j _
theorem z4f(l:List UInt8)(b:UInt8)(h:Int):z1s (l++[b]) h=IntKind.u64.wrap (bits .xor .u64 (z1s l h) (b.toNat:Int)*1099511628211):=by unfold z1s;rw[List.foldl_append];rfl
theorem z3P(sd:Int)(s:List UInt8)(w:World)(J:s.length<=4611686018427387903):Calls Tryz.prog 89 #[.int .u64 sd,.string ⟨s.toArray⟩] w fun e w'=>e= .returned (.int .u64 (q2V sd s))/\w=w':=by
 by_cases l:sd=0
 ·subst l
  have j:Hd (q2V 0 s=7):=η (by unfold q2V;rw[ξ rfl]);go_enter Tryz.func89,Tryz.ntmps89;go_wp2_with fail;go_ret;exact⟨by rw[j.o];rfl,rfl⟩
 have G:(sd==0)=false:=by simpa using l
 have j:Hd (q2V sd s=y1r (z1s s (bits .xor .u64 14695981039346656037 sd))):=η (by unfold q2V;rw[κ l]);obtain⟨q,r⟩: ∃a,bits .xor .u64 14695981039346656037 sd=a:=⟨_,rfl⟩
 rw[r] at j;clear l;go_enter Tryz.func89,Tryz.ntmps89;go_wp2_with fail
 go_loopw [5,13] (fun h i W=> ∃k:Nat,k<=s.length/\i= .int .i64 (k:Int)/\h= .int .u64 (z1s (s.take k) q)/\W=w) (fun _ i _=>s.length-(intOf i).toNat)
 case atStart=>exact⟨0,υ _,rfl,rfl,rfl⟩
 case round=>
  obtain⟨k,I,rfl,rfl,rfl⟩:=hrel;by_cases d:k<s.length
  ·have F:decide ((k:Int)<(s.length:Int))=true:=ζ (by omega)
   have x:=z7G s k d;have y:s.take (k+1)=s.take k++[s.getD k 0]:=by
    rw[List.take_succ_eq_append_getElem d];simp[List.getD,γ d]
   have m:=η (z4f (s.take k) (s.getD k 0) q);rw[<-y] at m;have M:IntKind.i64.wrap ((k:Int)+1)=(k:Int)+1:=by rw[ν];omega
   obtain⟨b,u⟩: ∃b:Nat,(s.getD k 0).toNat=b:=⟨_,rfl⟩
   have E:b<256:=by rw[<-u];exact(s.getD k 0).toNat_lt
   rw[u] at x m;have N:IntKind.u64.wrap (b:Int)=(b:Int):=by rw[IntKind.wrap_u64];omega
   clear y u;go_wp2_with fail
   go_roundw
   case rel=>exact⟨k+1,by omega,by go_num,by rw[m.o],(by first|rfl|trivial)⟩
   case measure=>simp[intOf];omega
  ·obtain rfl:k=s.length:=by omega
   have C:s.take s.length=s:=List.take_length;rw[C];have D:=η (fun W=>y2o (z1s s q) W);clear C;go_wp2_with fail;refine(D.o _).mono ?_;rintro e w1 ⟨rfl,rfl⟩;go_wp2_with fail;go_ret;exact⟨by rw[j.o];rfl,rfl⟩
theorem z8K(e:Ev)(w:World)(he:z6d e):Calls Tryz.prog 126 #[evV e] w fun r w'=>r= .returned (.string ⟨(evB e).toArray⟩)/\Ext w w':=by
 obtain⟨t,d,b⟩:=e;obtain⟨l,X⟩:=he;obtain⟨_,J,M⟩:=q1W l;simp only at l X J M;show Calls _ _ #[.agg #[.string ⟨t.toArray⟩,.string ⟨d.toArray⟩,.float .f64 b]] _ fun r w'=>r= .returned (.string ⟨(q1o t++(q1o d++be 8 b)).toArray⟩)/\Ext w w'
 have G:=η (fun W=>q9O t d .f64 b W (by omega) (by omega));rw[l] at G;have u:=η (fun W=>z7O t W (by omega));have x:=η (fun W=>z7O d W (by omega));have I:=η (fun W=>z4u (b:Int) 8 8 W rfl (by omega) (by omega) (by omega) (by omega));have l1:(q1o t).length<=1000:=by unfold q1o;split<;>simp[q0G];omega
 have l2:(q1o d).length<=1000:=by unfold q1o;split<;>simp[q0G];omega
 have O:=q0G 8 ((b:Int)).toNat;obtain⟨R,m⟩: ∃R,be 8 ((b:Int)).toNat=R:=⟨_,rfl⟩
 rw[m] at I O;rw[Int.toNat_natCast] at m;rw[m];have a0:R.length<=8:=by omega
 have Q:=η (q0B w (.cells #[.string ⟨t.toArray⟩,.string ⟨d.toArray⟩,.float .f64 b] 67));have i:=Blk.new w 67 #[.string ⟨t.toArray⟩,.string ⟨d.toArray⟩,.float .f64 b];have k0:(w.alloc (.cells #[.string ⟨t.toArray⟩,.string ⟨d.toArray⟩,.float .f64 b] 67)).cell? ⟨w.heap.size,0,none⟩=some (.string ⟨t.toArray⟩):=i.cell 0;have k1:(w.alloc (.cells #[.string ⟨t.toArray⟩,.string ⟨d.toArray⟩,.float .f64 b] 67)).cell? ⟨w.heap.size,1,none⟩=some (.string ⟨d.toArray⟩):=i.cell 1;have Z:(w.alloc (.cells #[.string ⟨t.toArray⟩,.string ⟨d.toArray⟩,.float .f64 b] 67)).cell? ⟨w.heap.size,2,none⟩=some (.float .f64 b):=i.cell 2;have s:=η i;generalize q1o t=A at*;generalize q1o d=D at*;clear i l J M m O;go_enter Tryz.func126,Tryz.ntmps126;go_wp2_with fail;generalize w.alloc (.cells #[.string ⟨t.toArray⟩,.string ⟨d.toArray⟩,.float .f64 b] 67)=w1 at*;generalize w.heap.size=q at*;refine(G.o _).mono ?_;rintro e F ⟨rfl,E⟩;have y:=η (Q.o.trans E);have j:=s.o.ext E;have S:F.cell? ⟨q,0,none⟩=some (.string ⟨t.toArray⟩):=j.cell 0;have U:F.cell? ⟨q,1,none⟩=some (.string ⟨d.toArray⟩):=j.cell 1;have V:F.cell? ⟨q,2,none⟩=some (.float .f64 b):=j.cell 2;have u0:=q0C S;have u1:=q0C U;have u2:=q0C V;have q1:¬(9223372036854775807<A.length+D.length):=by omega
 have q2:¬(9223372036854775807<(A++D).length+R.length):=by rw[θ];omega
 have q3:¬(9223372036854775807<A.length+D.length+R.length):=by omega
 have Y:=q5a b;clear E j k0 k1 Z;go_wp2_with fail;refine q0D (by kernel_rfl) (by kernel_rfl) ?_
 repeat (go_big_quiet_step (fail))
 go_big_quiet_step (exact Calls.quiet_ext (u.o _))
 repeat (go_big_quiet_step (fail))
 go_big_quiet_step (exact Calls.quiet_ext (x.o _))
 repeat (go_big_quiet_step (fail))
 go_big_quiet_step (exact Calls.quiet_ext (I.o _))
 repeat (go_big_quiet_step (fail))
 refine wpQuiet_nil ?_;intro w3 N;have C:=η (y.o.trans N);clear N;go_wp2_with fail;go_ret;exact⟨by rw[q2L,q2L];simp,C.o⟩
def y1M(w:World)(mv:Value)(L:List En)(e:Ending)(w':World):Prop:=
 ∃(p z:Nat) (mv':Value) (D:DataW Unit),e= .returned (.agg #[.int .i64 (p:Int),.int .i64 (z:Int),mv'])/\FilK w' p z mv' D/\(∀B,y2Z B mv->y2Z B mv')/\(∀x∈L,z6W p z D x.1=true)/\Ext w w'
theorem y0t{s:Nat}{D:DataW Unit}{ao:Option Addr}{cap:Nat}{L:List En}(w:World)(hf:FilK w p s mv D)(C:Ens w ao n cap L):
  Calls Tryz.prog 262 #[.agg #[.int .i64 (p:Int),.int .i64 (s:Int),mv],.slice ao n cap] w (y1M w mv L):=by
 have HF:=η hf;have Hx:=η C;have b1:=C.fits;have b2:=C.bound;have j:=η C.len;obtain⟨⟨mo,rfl⟩,_⟩:=hf;have F:=Blk.new w 319 #[.int .i64 (p:Int),.int .i64 (s:Int),.map mo];have l:=Blk.new (w.alloc (.cells #[.int .i64 (p:Int),.int .i64 (s:Int),.map mo] 319)) 319 #[.int .i64 0,.int .i64 0,.map none];rw[ρ] at l;have E:=η (q5Z w (.cells #[.int .i64 (p:Int),.int .i64 (s:Int),.map mo] 319) (.cells #[.int .i64 0,.int .i64 0,.map none] 319));have V:=F.ext (q0B _ (.cells #[.int .i64 0,.int .i64 0,.map none] 319));have N:=η (fun W=>z6E [] W (by decide));clear C;go_enter Tryz.func262,Tryz.ntmps262;go_wp2_with fail;generalize (w.alloc (.cells #[.int .i64 (p:Int),.int .i64 (s:Int),.map mo] 319)).alloc (.cells #[.int .i64 0,.int .i64 0,.map none] 319)=w1 at*;have HA:=η V;have HB:=η l;clear F V l;obtain⟨q,hq⟩: ∃q,w.heap.size=q:=⟨_,rfl⟩
 rw[hq] at HA HB;have HQ:Hd (w.heap.size=q):=η hq;rw[hq];clear hq
 go_loopw [9] (fun i W=> ∃k:Nat,k<=n/\i= .int .i64 (k:Int)/\(∀x∈L.take k,z6W p s D x.1=true)/\Ext w1 W) (fun i _=>n-(intOf i).toNat)
 case atStart=>exact⟨0,υ _,rfl,(fun x C=>by cases C),Ext.refl _⟩
 case round=>
  obtain⟨k,hk,rfl,u,O⟩:=hrel;have M:=η O;have r:=η u;have F:=HA.o.ext O;have l:=HB.o.ext O;have a0:wr.cell? ⟨q,0,none⟩=some (Value.int .i64 (p:Int)):=F.cell 0;have a1:wr.cell? ⟨q,1,none⟩=some (Value.int .i64 (s:Int)):=F.cell 1;have a2:wr.cell? ⟨q,2,none⟩=some (Value.map mo):=F.cell 2;by_cases y:k<n
  ·have hd:decide ((k:Int)<(n:Int))=true:=by simp;omega
   obtain⟨b,off,rfl,c0,c1,c2⟩:=(Hx.o.ext (E.o.trans O)).at y;have hL:L.take (k+1)=L.take k++[L.getD k en0]:=by
    rw[List.take_succ_eq_append_getElem (by rw[j.o];exact y)];simp[List.getD,γ (show k<L.length by rw[j.o];exact y)]
   have b0:L.getD k en0∈L:=by
    simp[List.getD,γ (show k<L.length by rw[j.o];exact y)]
   have g0:=η hL;generalize L.getD k en0=z at*;obtain⟨I,S,U⟩:=z;have f0:=η (HF.o.ext (E.o.trans O));have e0:=η l;have G:=F.ext (q0B wr (.cells #[.int .u64 I,.int .i64 S,.int .i64 U] 165));have x0:(wr.alloc (.cells #[.int .u64 I,.int .i64 S,.int .i64 U] 165)).cell? ⟨q,0,none⟩=some (Value.int .i64 (p:Int)):=G.cell 0;have x1:(wr.alloc (.cells #[.int .u64 I,.int .i64 S,.int .i64 U] 165)).cell? ⟨q,1,none⟩=some (Value.int .i64 (s:Int)):=G.cell 1;have x2:(wr.alloc (.cells #[.int .u64 I,.int .i64 S,.int .i64 U] 165)).cell? ⟨q,2,none⟩=some (Value.map mo):=G.cell 2;clear F G l O u hL b0;go_wp2_with fail;have hm:=z9U (p:=p) (s:=s) (mv:= .map mo) (D:=D) I (wr.alloc (.cells #[.int .u64 I,.int .i64 S,.int .i64 U] 165)) (f0.o.ext (q0B _ _));refine hm.mono ?_;rintro e w5 ⟨rfl,X⟩;have J:=η ((q0B wr (.cells #[.int .u64 I,.int .i64 S,.int .i64 U] 165)).trans X);clear hm X a0 a1 a2 c0 c1 c2 x0 x1 x2
   cases hmz:z6W p s D I with
   | true=>
    have h0:=η hmz;clear hmz;go_wp2_with fail
    go_roundw
    case rel=>exact⟨k+1,y,by go_num,(fun x C=>by rw[g0.o] at C;rcases List.mem_append.1 C with h|h;exact r.o x h;rw[Γ] at h;rw[h];exact h0.o),M.o.trans J.o⟩
    case measure=>simp[intOf];omega
   | false=>
    clear hmz;go_wp2_with fail;refine(N.o _).mono ?_;rintro e w6 ⟨p',z',n0,D',rfl,Y,j0,d0,Q⟩;obtain⟨l0,k0⟩:=d0 (by decide);subst l0;subst k0;have m0:=η Y;have d:=e0.o.ext (J.o.trans Q);have r0:w6.cell? ⟨q+1,0,none⟩=some (Value.int .i64 0):=d.cell 0;have r1:w6.cell? ⟨q+1,1,none⟩=some (Value.int .i64 0):=d.cell 1;have r2:w6.cell? ⟨q+1,2,none⟩=some (Value.map none):=d.cell 2;have y0:=d.free 0;have y1:=d.free 1;have y2:=d.free 2;have i0:=η (E.o.trans (M.o.trans (J.o.trans Q)));clear Y Q d j0 d0;go_wp2_with fail
    (try simp only[Exit.inBlock,Exit.then])
    refine bodyPost_ret (v:= .agg #[.int .i64 0,.int .i64 (z':Int),.map none]) (by rw[q1F rfl];go_simp) rfl ?_;have R:OffS (fun i=>i=q+1) w6 (((w6.setCell ⟨q+1,0,none⟩ (.int .i64 0)).setCell ⟨q+1,1,none⟩ (.int .i64 (z':Int))).setCell ⟨q+1,2,none⟩ (.map none)):=by
     refine OffS.trans (OffS.trans (OffS.set _ ?_ _ _) (OffS.set _ ?_ _ _)) (OffS.set _ ?_ _ _)<;>rfl
    have hX:=R.ext i0.o (fun i hi=>by rw[hi,HQ.o];omega);exact⟨0,z',.map none,D',rfl,⟨⟨none,rfl⟩,.inl ⟨rfl,rfl⟩⟩,(fun B h m hm=>by cases hm),(fun x _=>rfl),hX⟩
  ·have hd:decide ((k:Int)<(n:Int))=false:=by simp;omega
   have Z:L.take k=L:=by rw[Δ];rw[j.o];omega
   rw[Z] at r;have r0:wr.cell? ⟨q+1,0,none⟩=some (Value.int .i64 0):=l.cell 0;have r1:wr.cell? ⟨q+1,1,none⟩=some (Value.int .i64 0):=l.cell 1;have r2:wr.cell? ⟨q+1,2,none⟩=some (Value.map none):=l.cell 2;have y0:=l.free 0;have y1:=l.free 1;have y2:=l.free 2;clear F l O u Z;go_wp2_with fail
   (try simp only[Exit.inBlock,Exit.then])
   refine bodyPost_ret (v:= .agg #[.int .i64 (p:Int),.int .i64 (s:Int),.map mo]) (by rw[q1F rfl];go_simp) rfl ?_;have R:OffS (fun i=>i=q+1) wr (((wr.setCell ⟨q+1,0,none⟩ (.int .i64 (p:Int))).setCell ⟨q+1,1,none⟩ (.int .i64 (s:Int))).setCell ⟨q+1,2,none⟩ (.map mo)):=by
    refine OffS.trans (OffS.trans (OffS.set _ ?_ _ _) (OffS.set _ ?_ _ _)) (OffS.set _ ?_ _ _)<;>rfl
   have hX:=R.ext (E.o.trans M.o) (fun i hi=>by rw[hi,HQ.o];omega);exact⟨p,s,.map mo,D,rfl,HF.o.ext hX,fun B h=>h,r.o,hX⟩
theorem q4j(h:OGr w B tO tI v vs L)(k: ∀i,(v.ownBlock=some i\/ ∃q,(vs.getD q (.slice none 0 0)).ownBlock=some i)->w'.heap[i]? =w.heap[i]?):OGr w' B tO tI v vs L:=
 ⟨h.own.same fun i b=>k i (.inl b),fun q=>(h.row q).same fun i b=>k i (.inr ⟨q,b⟩),h.sep⟩
theorem z9Z{t:TypeId}{g:Nat}{cs:Array Value}(h:OGr w B tO tI v vs L)(j:Blk w g t cs)(l:tO≠t)(m:tI≠t): ∀i,(v.ownBlock=some i\/ ∃q,(vs.getD q (.slice none 0 0)).ownBlock=some i)->i≠g:=by
 rintro i (d|⟨q,d⟩)
 ·obtain⟨b,hc⟩:=h.own.etype d
  exact Blk.ne (cs:=b) hc j l
 ·obtain⟨b,hc⟩:=(h.row q).etype d
  exact Blk.ne (cs:=b) hc j m
theorem z0u(h:OGr w B tO tI v vs L): ∀i,(v.ownBlock=some i\/ ∃q,(vs.getD q (.slice none 0 0)).ownBlock=some i)->B<=i/\i<w.heap.size:=by
 rintro i (b|⟨q,b⟩)
 ·exact h.own.lt i b
 ·exact(h.row q).lt i b
theorem q9l{B':Nat}(h:OGr w B tO tI v vs L)(k:B'<=B):OGr w B' tO tI v vs L:=
 ⟨h.own.base k,fun i=>(h.row i).base k,h.sep⟩
theorem z2w(nx ck sd:Int)(ao:Option Addr)(n cap:Nat)(L:List (List Int))(w:World)(hx:Grid w ao n cap L)(hs: ∀i,(L.getD i []).length<=1000000000)(hn:n<=1000000000):
  Calls Tryz.prog 111 #[.agg #[.int .i64 nx,.int .i64 ck,.int .u64 sd,.slice ao n cap]] w fun e w'=>
   ∃v vs,e= .returned (.agg #[.int .i64 nx,.int .i64 ck,.int .u64 sd,v])/\OGr w' w.heap.size 37 3 v vs L/\Ext w w':=by
 have b1:=hx.fits;have b2:=hx.bound;have N:=η hx.len;have h0:=(q0B w (.cells #[.int .i64 nx,.int .i64 ck,.int .u64 sd,.slice ao n cap] 47)).alloc (.cells #[.int .i64 0,.int .i64 0,.int .u64 0,.slice none 0 0] 47);have a0:=(Blk.new w 47 #[.int .i64 nx,.int .i64 ck,.int .u64 sd,.slice ao n cap]).ext (q0B _ (.cells #[.int .i64 0,.int .i64 0,.int .u64 0,.slice none 0 0] 47));have C:=Blk.new (w.alloc (.cells #[.int .i64 nx,.int .i64 ck,.int .u64 sd,.slice ao n cap] 47)) 47 #[.int .i64 0,.int .i64 0,.int .u64 0,.slice none 0 0];rw[ρ] at C;have Z:=η h0;have X:=η a0;have G:=η C;have Hx:=η hx;have Q:((w.alloc (.cells #[.int .i64 nx,.int .i64 ck,.int .u64 sd,.slice ao n cap] 47)).alloc (.cells #[.int .i64 0,.int .i64 0,.int .u64 0,.slice none 0 0] 47)).heap.size=w.heap.size+2:=by simp[ρ]
 clear hx h0 a0 C;go_enter Tryz.func111,Tryz.ntmps111;go_wp2_with fail;obtain⟨U,S⟩: ∃U,(w.alloc (.cells #[.int .i64 nx,.int .i64 ck,.int .u64 sd,.slice ao n cap] 47)).alloc (.cells #[.int .i64 0,.int .i64 0,.int .u64 0,.slice none 0 0] 47)=U:=⟨_,rfl⟩
 rw[S] at Q Z X G;simp only[S];have k0:=η Q;clear Q S
 go_loopw [3,9] (fun v i W=> ∃k:Nat,k<=n/\i= .int .i64 k/\(∃vs,OGr W U.heap.size 37 3 v vs (L.take k))/\Ext U W) (fun _ i _=>n-(intOf i).toNat)
 case atStart=>exact⟨0,υ _,rfl,⟨[],by rw[List.take_zero];exact OGr.nil _ _ _ _⟩,Ext.refl _⟩
 case round=>
  obtain⟨k,hk,rfl,⟨vs,J⟩,V⟩:=hrel;have Hb:=η (Z.o.trans V);have x:=η (X.o.ext V);have m:=η (G.o.ext V);have p0:=V.size;have q0:=k0.o;have n0:=η V;clear V;have d:=η J;clear J;by_cases e0:k<n
  ·obtain⟨b,off,ai,ni,ci,rfl,c1,r1⟩:=(Hx.o.ext Hb.o).at e0
   have hd:decide ((k:Int)<(n:Int))=true:=ζ (by omega);have q1:IntKind.i64.wrap ((k:Int)+1)=(k:Int)+1:=by rw[ν];omega
   have o0:k<L.length:=by rw[N.o];exact e0
   have s0:ni<=1000000000:=by have:=r1.len;have:=hs k;omega
   have f0:=q0V L [] k o0;generalize L.getD k []=R at*;have R1:=η r1;clear r1;have l0:=η f0;clear f0;have c0:(L.take k).length=k:=by simp;omega
   have M:=η c0;clear c0;obtain⟨r,I,rfl⟩: ∃r I,u3= .slice r k I:=by
    obtain⟨a,c,e⟩:=d.o.own.slice;rw[M.o] at e;exact⟨a,c,e⟩
   go_wp2_with (first|(at_builtin;refine q0m rfl (.const (.slice none 0 0)) (.tmp 14) 37 rfl wr.heap.size 3 _ 1 8 Tryz.underlying37 Tryz.infoInt rfl (by decide) _ _ _ rfl (Own.nil _ _ _ _) _ _ _ (R.map (Value.int .i64)) rfl (by rw[List.length_map,R1.o.len];omega) R1.o.nil R1.o.rd (ints_oneCell _ _) (by omega) (by omega) (ι _) ?_;intro v' w1 s hg _;rw[Nat.zero_add,List.nil_append] at s;obtain⟨a1,k1,rfl⟩:=s.slice;have m0:=η s;have D:Hd (Ext wr w1):=η ((Ext.refl wr).grown hg (ι _) (fun q hq=>by cases hq));have E:Hd (OGr (w1.alloc (.cells #[.slice a1 ni k1] 37)) U.heap.size 37 3 (.slice r k I) vs (L.take k)):=η ((d.o.ext D.o).ext ((Ext.refl _).alloc _));have r0:=D.o.size;clear s hg)|(at_builtin;refine q0m rfl (.tmp 13) (.tmp 16) 45 rfl U.heap.size 37 _ 1 24 Tryz.underlying45 Tryz.infoInts rfl (by decide) (.slice r k I) k _ rfl (by have h:=E.o.own;rw[M.o] at h;exact h) _ _ _ [.slice a1 ni k1] rfl rfl (fun h=>by cases h) (Rd.lit _ _ _) (by intro u hu;rw[List.mem_singleton.1 hu];rfl) (by omega) (by omega) (by simp;omega) ?_;intro v2 w2 y b0 _;obtain⟨a2,k2,rfl⟩:=y.slice;have j0:=η y;have Y:=η b0;clear y b0))
   have C:=q1c (n0.o.trans (D.o.alloc _)) E.o.own Y.o (by simp;omega);have G:=η C;clear C;have O:=E.o.push (l:=R) (by decide) ((by have h:=m0.o;rw[<-R1.o.len] at h;exact h.ext ((Ext.refl w1).alloc (.cells #[.slice a1 ni k1] 37))):Own _ wr.heap.size 3 1 (.slice a1 R.length k1) R.length (R.map (Value.int .i64))) p0 (fun j g hj=>(z0u d.o g (.inr ⟨j,hj⟩)).2) (by have h:=j0.o;rw[M.o,R1.o.len];exact h) Y.o;rw[<-l0.o] at O;have i0:=η O;clear O;go_wp2_with fail
   go_roundw
   case rel=>exact⟨k+1,by omega,by go_num,⟨_,i0.o⟩,G.o⟩
   case measure=>simp[intOf];omega
  ·obtain rfl:k=n:=by omega
   have hd:decide ((k:Int)<(k:Int))=false:=ε (by omega);have hL:L.take k=L:=Δ (by rw[N.o];exact ι _);rw[hL] at d;obtain⟨r,I,rfl⟩:=d.o.own.slice;have z0:wr.cell? ⟨w.heap.size,0,none⟩=some (.int .i64 nx):=x.o.cell 0;have z1:wr.cell? ⟨w.heap.size,1,none⟩=some (.int .i64 ck):=x.o.cell 1;have z2:wr.cell? ⟨w.heap.size,2,none⟩=some (.int .u64 sd):=x.o.cell 2;have z3:wr.cell? ⟨w.heap.size,3,none⟩=some (.slice ao k cap):=x.o.cell 3;have y0:wr.cell? ⟨w.heap.size+1,0,none⟩=some (.int .i64 0):=m.o.cell 0;have y1:wr.cell? ⟨w.heap.size+1,1,none⟩=some (.int .i64 0):=m.o.cell 1;have y2:wr.cell? ⟨w.heap.size+1,2,none⟩=some (.int .u64 0):=m.o.cell 2;have y3:wr.cell? ⟨w.heap.size+1,3,none⟩=some (.slice none 0 0):=m.o.cell 3;have f3:wr.frozen? ⟨w.heap.size,3,none⟩=false:=x.o.free 3;have g0:wr.frozen? ⟨w.heap.size+1,0,none⟩=false:=m.o.free 0;have g1:wr.frozen? ⟨w.heap.size+1,1,none⟩=false:=m.o.free 1;have g2:wr.frozen? ⟨w.heap.size+1,2,none⟩=false:=m.o.free 2;have g3:wr.frozen? ⟨w.heap.size+1,3,none⟩=false:=m.o.free 3;have HF:Hd (∀W,OffS (fun i=>i=w.heap.size\/i=w.heap.size+1) wr W->OGr W w.heap.size 37 3 (.slice r L.length I) vs L/\Ext w W):=η fun W hW=>
    ⟨q4j (q9l d.o (show w.heap.size<=U.heap.size by omega)) fun i hi=>hW.block i (z0u d.o i hi).2 fun h=>h.elim (z9Z d.o x.o (by decide) (by decide) i hi) (z9Z d.o m.o (by decide) (by decide) i hi),hW.ext Hb.o (fun i hi=>by rcases hi with rfl|rfl<;>omega)⟩
   have d0:=N.o;rw[d0] at HF;rw[d0];clear x m d;go_wp2_with fail
   ((try simp only[Exit.inBlock,Exit.then]);refine bodyPost_ret (v:= .agg #[.int .i64 nx,.int .i64 ck,.int .u64 sd,.slice r k I]) (by rw[q1F rfl];go_simp) rfl ?_)
   have hf:=HF.o _ (((((OffS.set (F:=fun i=>i=w.heap.size\/i=w.heap.size+1) wr (.inl rfl) 3 (.slice r k I)).trans (OffS.set _ (.inr rfl) 0 (.int .i64 nx))).trans (OffS.set _ (.inr rfl) 1 (.int .i64 ck))).trans (OffS.set _ (.inr rfl) 2 (.int .u64 sd))).trans (OffS.set _ (.inr rfl) 3 (.slice r k I)));exact⟨_,vs,rfl,hf.1,hf.2⟩
end
end Go.Proofs.YtfiibpgoplcgkaaGreatDoor
