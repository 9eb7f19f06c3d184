/- TopNoon, the statement: the law returns true at all arguments; there are no further conditions. -/
import Derived.Test.YtjmdeplmenbmmaaGreatW09
import Derived.Test.YtjmdeplmenbmmaaGreatW32
set_option linter.unusedVariables false
namespace Go.Proofs.YtjmdeplmenbmmaaGreat
open Go.ChangeShapes Go.WideShapes Go.ChangeAt Go.RowKit Go.Deep Go.Joins
set_option maxRecDepth 100000 in
theorem topNoon_lifted (os:Os) (started:os.Started) (H:Type) (enc:TypeId×Value→H) :
  ReturnsInHanded {} Tryz.checked os 3 .any (Rows.topNoonSpec.pre6 enc Tryz.prog Tryz.f3 Rows.topNoonRow.domain false) (Rows.topNoonSpec.post enc Tryz.prog Tryz.f3 false true false false):=by
 refine returnsInHanded_of_change (C:=Tryz.checked) own started (by kernel_rfl) Tryz.func3
  (ChangeSpec.witness6 (enc:=enc) (C:=Tryz.checked) false ⟨#[],#[.slice none 0 0,.string ⟨#[]⟩,.agg #[.int .i64 0,.int .i64 0],.int .i64 0,.int .u32 0],[]⟩ 8 (by kernel_rfl) (by kernel_rfl) (by kernel_rfl) (by kernel_rfl)) ?_
 intro W base args ds gs before hval0 hW hcnd _
 have hval:∀(j:Nat) t v,Tryz.f3.params[j]?=some t→args[j]?=some v→Value.okWide Tryz.prog W .any base t v:=hval0
 have hW':=hW
 obtain⟨p,q,hA0,hV,rfl,hfz,hnd⟩:=hW
 have hA:DataW.TrodAll enc Tryz.prog W 0 (fun _=>true) true Tryz.f3.params.toList args.toList ds p:=hA0
 rw[Tryz.params3] at hA hval
 obtain⟨v0,vs0,d0,ds0,p0,q0,hargs,rfl,rfl,h0,r0⟩:=trodAll_cons hA
 obtain⟨v1,vs1,d1,ds1,p1,q1,rfl,rfl,rfl,h1,r1⟩:=trodAll_cons r0
 obtain⟨v2,vs2,d2,ds2,p2,q2,rfl,rfl,rfl,h2,r2⟩:=trodAll_cons r1
 obtain⟨v3,vs3,d3,ds3,p3,q3,rfl,rfl,rfl,h3,r3⟩:=trodAll_cons r2
 obtain⟨v4,vs4,d4,ds4,p4,q4,rfl,rfl,rfl,h4,r4⟩:=trodAll_cons r3
 obtain⟨rfl,rfl,rfl⟩:=trodAll_nil r4
 obtain rfl:args=#[v0,v1,v2,v3,v4]:=by cases args;simp_all
 obtain⟨rfl,rfl⟩:=trodVars_none hV
 obtain⟨g0,b0,rfl,ro0,lm0,tb0⟩:=arg_pages Tryz.underlying22 Tryz.underlying32 (by kernel_rfl) (by kernel_rfl) (by kernel_rfl) Tryz.underlying29 (by kernel_rfl) (by kernel_rfl) Tryz.underlying3 Tryz.underlying3 Tryz.underlying3 Tryz.underlying30 Tryz.underlying76 (by kernel_rfl) (by kernel_rfl) (by kernel_rfl) Tryz.underlying9 Tryz.underlying73 Tryz.underlying3 (by kernel_rfl) Tryz.underlying73 Tryz.underlying3 (by kernel_rfl) Tryz.underlying3 Tryz.underlying3 Tryz.underlying3 (hval 0 22 v0 rfl rfl) h0
 obtain⟨s1,rfl⟩:=okWide_string Tryz.underlying9 (hval 1 9 v1 rfl rfl)
 obtain⟨l1,rfl⟩:∃l:List UInt8,s1=⟨l.toArray⟩:=⟨s1.data.toList,by cases s1;rfl⟩
 obtain⟨a2_0,a2_1,rfl,w2_0,w2_1⟩:=arg_agg2 Tryz.underlying24 (by kernel_rfl) (by kernel_rfl) Tryz.underlying3 Tryz.underlying3 (hval 2 24 v2 rfl rfl) h2
 obtain⟨a3,rfl,w3⟩:=arg_int Tryz.underlying3 (hval 3 3 v3 rfl rfl) h3
 obtain⟨a4,rfl,w4⟩:=arg_int Tryz.underlying25 (hval 4 25 v4 rfl rfl) h4
 clear hA0 hval0
 simp only[List.append_nil] at hW'
 refine(nnoon_c (nm:=l1) (fr:=a3) (fun p hp t ht=>⟨((tb0 p hp).2.2.1 t ht).1,((tb0 p hp).2.2.1 t ht).2.2.1.1,((tb0 p hp).2.2.1 t ht).2.2.2.1.1⟩) lm0 (fun p hp=>(tb0 p hp).2.1) (i64_of w2_0) (i64_of w2_1) (u32_of w4) W ⟨ro0,fun p hp=>(tb0 p hp).1⟩).mono fun e W' ⟨he,hb⟩=>?_
 subst he
 exact⟨_,rfl,post_of_law laidOut (by decide +kernel) hW' rfl rfl rfl (fun _ _ _=>trodAll_cons_mk (shut_bool Tryz.underlying4 _) trodAll_mk0) hb (ok_one (by kernel_rfl) rfl (okWide_bool_mk Tryz.underlying4 _))⟩
theorem TopNoon_holds:Rows.TopNoonSaid :=
 OpenClaim.holds_of_wide 3 Tryz.f3 rfl rfl rfl rfl rfl rfl rfl ⟨rfl,rfl,rfl,rfl,rfl⟩ rfl rfl rfl rfl rfl (by kernel_rfl) Tryz.func3 (by kernel_rfl)
  (of_decide_eq_true (by kernel_rfl)) (by unfold Func.isWrapper;first|(rw[if_pos (by decide +kernel)];kernel_rfl)|(rw[if_neg (by decide +kernel)];exact⟨rfl,rfl⟩))
  (fun os started H enc _=>topNoon_lifted os started H enc)
end Go.Proofs.YtjmdeplmenbmmaaGreat
