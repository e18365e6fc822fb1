/- WorldNobody: for every input the call returns true,and each argument reads behind the call as it read before. No condition. -/
import Derived.Test.YthihpfpbiajddaaGreatHQWorldNobody39
namespace Go.Proofs.YthihpfpbiajddaaGreat
open Go.ChangeShapes Go.WideShapes Go.ChangeAt Go.RowKit
open Go.ChangeMaps (open_string shut_string)
set_option maxRecDepth 100000 in
theorem rH (os:Os) (started:os.Started) (H:Type) (enc:TypeId×Value→H) :
 ReturnsInHanded {} Tryz.checked os 5 .any (Rows.worldNobodySpec.pre6 enc Tryz.prog Tryz.f5 Rows.worldNobodyRow.domain false) (Rows.worldNobodySpec.post enc Tryz.prog Tryz.f5 false true false false):=by
 refine returnsInHanded_of_change (C:=Tryz.checked) own started (by kernel_rfl) Tryz.func5
  (ChangeSpec.witness6 (enc:=enc) (C:=Tryz.checked) false ⟨#[],#[.agg #[.int .i64 0,.int .i64 0,.int .i64 0,.int .i64 0,.int .i64 0,.int .i64 0,.int .i64 0,.int .i64 0,.string ByteArray.empty],.int .i64 0,.agg #[.int .i64 0,.int .i64 0,.int .i64 0]],[]⟩ 8 (by kernel_rfl) (by kernel_rfl) (by kernel_rfl) (by kernel_rfl)) ?_
 intro W base args ds gs before hval0 hW hcnd _
 have hval:∀ (j:Nat) t v,Tryz.f5.params[j]?=some t→args[j]?=some v→Value.okWide Tryz.prog W .any base t v:=hval0
 have hW':=hW
 obtain ⟨p,q,hA0,hV,rfl,hfz,hnd⟩:=hW
 have hA:DataW.TrodAll enc Tryz.prog W 0 (fun _=>true) true Tryz.f5.params.toList args.toList ds p:=hA0
 rw [Tryz.params5] at hA hval
 obtain ⟨v0,vs0,d0,ds0,p0,q0,hargs,rfl,rfl,h0,r0⟩:=trodAll_cons hA
 obtain ⟨v1,vs1,d1,ds1,p1,q1,rfl,rfl,rfl,h1,r1⟩:=trodAll_cons r0
 obtain ⟨v2,vs2,d2,ds2,p2,q2,rfl,rfl,rfl,h2,r2⟩:=trodAll_cons r1
 obtain ⟨rfl,rfl,rfl⟩:=trodAll_nil r2
 obtain rfl:args=#[v0,v1,v2]:=by cases args;simp_all
 obtain ⟨rfl,rfl⟩:=trodVars_none hV
 obtain ⟨k0k,k0n,k0m,q0,rfl,w0,ok0⟩:=IM (hval 0 38 v0 rfl rfl) h0
 have k0:=h0
 have lt0:∀ x∈p0,x.block < W.heap.size:=by obtain ⟨m,hm⟩:=k0;exact DataW.trod_lt m _ _ _ hm
 obtain ⟨a1,rfl,rfl,rfl,w1⟩:=open_int Tryz.underlying3 (hval 1 3 v1 rfl rfl) h1
 obtain ⟨a2,b2,c2,rfl,wa2,wb2,wc2⟩:=IL (hval 2 23 v2 rfl rfl) h2
 have k2:=h2
 have lt2:∀ x∈p2,x.block < W.heap.size:=by obtain ⟨m,hm⟩:=k2;exact DataW.trod_lt m _ _ _ hm
 clear hA0 hval0
 refine (MB k0k k0n k0m q0 a1 a2 b2 c2 W).mono fun e W' ⟨he,bel⟩=>?_
 subst he
 exact ⟨_,rfl,_,_,_,[],_,[],hW',trodAll_mk1 (shut_bool Tryz.underlying4 _),(trodAll_cons_mk (Below.trod laidOut (by kernel_rfl) (of_decide_eq_true (by kernel_rfl)) k0 bel lt0) (trodAll_cons_mk (shut_int Tryz.underlying3 w1) (trodAll_cons_mk (Below.trod laidOut (by kernel_rfl) (of_decide_eq_true (by kernel_rfl)) k2 bel lt2) trodAll_mk0))),rfl,bel.frame _,fun h=>by cases h⟩
set_option maxRecDepth 100000
theorem j0:laidOutB Tryz.checked.prog=true:=by kernel_rfl
theorem j1:mapsRowed Tryz.checked.prog=true:=by kernel_rfl
theorem j2:(Rows.worldNobodyRow.inPlace == Tryz.checked.prog.inPlace 5)=true:=by kernel_rfl
theorem j3:(Rows.worldNobodyRow.unfollowed == Tryz.checked.prog.unfollowed 5)=true:=by kernel_rfl
theorem j4:(Rows.worldNobodyRow.recurses == Tryz.checked.prog.recurses 5)=true:=by kernel_rfl
theorem j5:(Rows.worldNobodyRow.named == Tryz.checked.prog.varsNamed 5)=true:=by kernel_rfl
theorem j6:(Rows.worldNobodyRow.plainKeys == Tryz.checked.prog.plainKeys)=true:=by kernel_rfl
theorem j7:Tryz.checked.prog.stopsHeard=true:=by kernel_rfl
theorem j8:Tryz.checked.prog.mayEnter=true:=by kernel_rfl
theorem j9:(Rows.worldNobodyRow.lifted == Tryz.checked.prog.liftsFinal)=true:=by kernel_rfl
theorem j10:(Tryz.checked.prog.make == some Rows.worldNobodyRow.make)=true:=by kernel_rfl
theorem jf:joinedFacts Tryz.checked.prog 5 Tryz.f5 Rows.worldNobodySpec Rows.worldNobodyRow=true:=by
 unfold joinedFacts
 rw [j0,j1,j2,j3,j4,j5,j6,j7,j8,j9,j10]
 kernel_rfl
theorem uy:Rows.worldNobodyRow.holds Tryz.pinned (OpenSpec.ofChange Rows.worldNobodySpec):=
 OpenClaim.holds_of_wide 5 Tryz.f5 rfl rfl rfl rfl rfl rfl rfl ⟨rfl,rfl,rfl,rfl,rfl⟩ rfl rfl rfl rfl rfl (by kernel_rfl) Tryz.func5 jf
  (of_decide_eq_true (by kernel_rfl)) (by unfold Func.isWrapper;rw [if_neg (of_decide_eq_false (by kernel_rfl))];exact ⟨rfl,rfl⟩)
  (fun os started H enc _=>rH os started H enc)
theorem WorldNobody_proved:Rows.WorldNobodySaid:=uy
#print axioms WorldNobody_proved
end Go.Proofs.YthihpfpbiajddaaGreat
