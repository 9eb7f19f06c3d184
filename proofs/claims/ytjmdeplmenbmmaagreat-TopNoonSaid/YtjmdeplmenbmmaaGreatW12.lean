/- Joined texts: Bkl, Inc, Pie, Pi2. -/
import Derived.Test.YtjmdeplmenbmmaaGreatW09
import Derived.Test.YtjmdeplmenbmmaaGreatW11
import Derived.Test.YtjmdeplmenbmmaaGreatW10
import Derived.Test.YtjmdeplmenbmmaaGreatChecked
set_option linter.unusedVariables false
set_option maxHeartbeats 8000000
namespace Go.Proofs.YtjmdeplmenbmmaaGreat
open Go.RowKit
def gF (pl:List PagT) (nm:List UInt8) (n h:Int):Int×Int:=match trkAt pl nm n with
 |none=>(0,0)
 |some t=>gAt t h
def bF (pl:List PagT) (nm:List UInt8) (n:Int):Int:=match trkAt pl nm n with
 |none=>0
 |some t=>t.be
def dirF (pl:List PagT) (nm:List UInt8) (lo hi:Int):Int×Int:=if nm=ariesN then NO.betA lo hi else NO.ghaA (gF pl nm) (bF pl nm) lo hi
section
variable {pl:List PagT} {nm:List UInt8} {lo hi lon n:Int}
theorem nth_in {α:Type} [Inhabited α] {l:List α} {i:Int} (h0:0≤i) (h1:i<l.length):nth l i∈l:=by
 have e:=nth_some (l:=l) (m:=i) h0 (by omega)
 exact List.mem_of_getElem? e
theorem pgIx_some {i:Nat} (h:pgIx pl n=some i):i<pl.length∧pnum (nth pl (i:Int))=n:=by
 unfold pgIx at h
 have h1:=List.find?_some h
 exact⟨List.mem_range.1 (List.mem_of_find?_eq_some h),of_decide_eq_true h1⟩
theorem trkAt_some {t:TrkT} (h:trkAt pl nm n=some t):∃p∈pl,pnum p=n∧t∈p.tl∧t.nm=nm:=by
 unfold trkAt at h
 cases hi:pgIx pl n with
 |none=>rw[hi] at h;cases h
 |some i =>
  rw[hi] at h
  obtain⟨h1,h2⟩:=pgIx_some hi
  dsimp only at h
  split at h
  ·rename_i h0
   have hlt:=idxT_lt (l:=(nth pl (i:Int)).tl) (nm:=nm)
   refine⟨_,nth_in (l:=pl) (i:=(i:Int)) (by omega) (by omega),h2,?_,?_⟩
   ·rw[←Option.some.inj h];exact nth_in h0 hlt.2
   ·rw[←Option.some.inj h]
    unfold idxT at h0 ⊢
    cases hf:(List.range (nth pl (i:Int)).tl.length).find? (fun i_1:Nat=>decide ((nth (nth pl (i:Int)).tl (i_1:Int)).nm=nm)) with
    |none=>rw[hf] at h0;dsimp only at h0;omega
    |some k =>
     dsimp only
     have hp:=List.find?_some hf
     exact of_decide_eq_true hp
  ·cases h
theorem trk_of (hb:BkOk pl) {t:TrkT} (h:trkAt pl nm n=some t):TrkF t∧-300000≤n∧n≤300000:=by
 obtain⟨p,hp,rfl,ht,_⟩:=trkAt_some h
 have ho:=hb.ok p hp
 exact⟨trk_facts (ho.trk ht),ho.num.2⟩
theorem bF_nn (hb:BkOk pl) (n:Int):0≤bF pl nm n:=by
 unfold bF
 cases h:trkAt pl nm n with
 |none=>exact Int.le_refl _
 |some t=>exact((trk_of hb h).1.be).1
theorem dur_zero {a b:Int} : (durR pl nm n a b).2=0↔(trkAt pl nm n).isSome=true:=by
 unfold durR
 cases trkAt pl nm n<;>simp
theorem dur_err {a b:Int} : (durR pl nm n a b).2=0∨durR pl nm n a b=(geo0,20):=by
 unfold durR
 cases trkAt pl nm n<;>simp
theorem wh_zero:(whR pl nm lo hi).2=0↔timeOk lo hi∧(nm=ariesN∨nm∈namesL pl)∧hi-lo<86400000∧(nm=ariesN∨((trkAt pl nm (lo/86400000)).isSome=true∧(trkAt pl nm (hi/86400000)).isSome=true)):=by
 unfold whR
 by_cases h1:timeOk lo hi
 ·rw[if_neg (by simpa using h1)]
  by_cases h2:nm≠ariesN∧nm∉namesL pl
  ·rw[if_pos h2]
   have:¬(nm=ariesN∨nm∈namesL pl):=by rintro(h|h);exact h2.1 h;exact h2.2 h
   simp[this]
  ·rw[if_neg h2]
   have h2':nm=ariesN∨nm∈namesL pl:=by
    by_cases e:nm=ariesN
    ·exact .inl e
    ·exact .inr (Decidable.byContradiction fun g=>h2 ⟨e,g⟩)
   by_cases h3:86400000≤hi-lo
   ·rw[if_pos h3]
    have:¬hi-lo<86400000:=by omega
    simp[this]
   ·rw[if_neg h3]
    have h3':hi-lo<86400000:=by omega
    by_cases h4:nm=ariesN
    ·rw[if_pos h4]
     simp[h1,h3',h4]
    ·rw[if_neg h4]
     unfold bodR
     by_cases h5:lo/86400000=hi/86400000
     ·rw[if_pos h5,dur_zero,h5]
      have h2'':=h2'.resolve_left h4
      simp[h1,h2'',h3',h4]
     ·rw[if_neg h5]
      by_cases h6:(durR pl nm (lo/86400000) (lo-lo/86400000*86400000) 86400000).2=0
      ·rw[if_neg (by simpa using h6)]
       rw[dur_zero] at h6
       by_cases h7:(durR pl nm (hi/86400000) 0 (hi-hi/86400000*86400000)).2=0
       ·rw[if_neg (by simpa using h7)]
        rw[dur_zero] at h7
        have h2'':=h2'.resolve_left h4
        simp[h1,h2'',h3',h4,h6,h7]
       ·rw[if_pos h7]
        rw[dur_zero] at h7
        simp[h4,h7]
      ·rw[if_pos h6]
       rw[dur_zero] at h6
       simp[h4,h6]
 ·rw[if_pos h1]
  simp[h1]
theorem wh_err:(whR pl nm lo hi).2=0∨(whR pl nm lo hi).1=geo0:=by
 unfold whR
 split
 ·exact .inr rfl
 split
 ·exact .inr rfl
 split
 ·exact .inr rfl
 split
 ·exact .inl rfl
 unfold bodR
 split
 ·rcases dur_err (pl:=pl) (nm:=nm) (n:=lo/86400000) (a:=lo-lo/86400000*86400000) (b:=hi-lo/86400000*86400000) with h|h
  ·exact .inl h
  ·rw[h];exact .inr rfl
 split
 ·exact .inr rfl
 split
 ·exact .inr rfl
 ·exact .inl rfl
theorem wh_time (h1:timeOk lo hi) (h2:nm=ariesN∨nm∈namesL pl) (h3:hi-lo<86400000):(whR pl nm lo hi).2=0∨(whR pl nm lo hi).2=20:=by
 unfold whR
 rw[if_neg (by simpa using h1),if_neg (by rintro⟨a,b⟩;rcases h2 with h|h;exact a h;exact b h),if_neg (by omega)]
 split
 ·exact .inl rfl
 unfold bodR
 split
 ·rcases dur_err (pl:=pl) (nm:=nm) (n:=lo/86400000) (a:=lo-lo/86400000*86400000) (b:=hi-lo/86400000*86400000) with h|h
  ·exact .inl h
  ·rw[h];exact .inr rfl
 split
 ·exact .inr rfl
 split
 ·exact .inr rfl
 ·exact .inl rfl
theorem wh_dir (h:(whR pl nm lo hi).2=0):(whR pl nm lo hi).1.1=dirF pl nm lo hi:=by
 have hz:=wh_zero.1 h
 obtain⟨h1,h2,h3,h4⟩:=hz
 unfold whR dirF
 rw[if_neg (by simpa using h1),if_neg (by rintro⟨a,b⟩;rcases h2 with h|h;exact a h;exact b h),if_neg (by omega)]
 by_cases ha:nm=ariesN
 ·rw[if_pos ha,if_pos ha]
 ·rw[if_neg ha,if_neg ha]
  obtain⟨h5,h6⟩:=h4.resolve_left ha
  obtain⟨t,ht⟩:=Option.isSome_iff_exists.1 h5
  obtain⟨u,hu⟩:=Option.isSome_iff_exists.1 h6
  have g1:gF pl nm (lo/86400000)=gAt t:=by funext h;unfold gF;rw[ht]
  have g2:gF pl nm (hi/86400000)=gAt u:=by funext h;unfold gF;rw[hu]
  have b1:bF pl nm (lo/86400000)=t.be:=by unfold bF;rw[ht]
  have b2:bF pl nm (hi/86400000)=u.be:=by unfold bF;rw[hu]
  unfold bodR NO.ghaA
  by_cases hd:lo/86400000=hi/86400000
  ·rw[if_pos hd,if_pos hd,g1,b1]
   unfold durR
   rw[ht]
   rfl
  ·rw[if_neg hd,if_neg hd,if_neg (by rw[dur_zero.2 h5];simp),if_neg (by rw[dur_zero.2 h6];simp),g1,b1,g2,b2]
   unfold durR
   rw[ht,hu]
   rfl
theorem lh_form (h:(whR pl nm lo hi).2=0):(lhR pl nm lo hi lon).2=0∧(lhR pl nm lo hi lon).1=NO.turnA ((dirF pl nm lo hi).1+lon%21600000,(dirF pl nm lo hi).2+lon%21600000):=by
 unfold lhR
 rw[if_neg (by rw[h];simp)]
 refine⟨rfl,?_⟩
 dsimp only
 rw[wh_dir h]
theorem turn_bd {a:Int×Int} (h:a.1≤a.2):0≤(NO.turnA a).1∧(NO.turnA a).1≤(NO.turnA a).2∧(NO.turnA a).2≤43200000:=by
 unfold NO.turnA
 split
 ·dsimp only;omega
 ·dsimp only
  have b1:=Int.emod_nonneg a.1 (show (21600000:Int)≠0 by decide)
  have b2:=Int.emod_lt_of_pos a.1 (show (0:Int)<21600000 by decide)
  omega
theorem gat_ord (t:TrkT) (h:Int):(gAt t h).1≤(gAt t h).2:=by unfold gAt;dsimp only;omega
theorem lin_ord {a b:Int×Int} {r:Int} (h1:a.1≤a.2) (h2:b.1≤b.2) (h3:0≤r∧r≤3600000):(NO.linA a b r 3600000).1≤(NO.linA a b r 3600000).2:=by
 unfold NO.linA
 dsimp only
 have m1:=Int.mul_le_mul_of_nonneg_right h1 (show 0≤3600000-r by omega)
 have m2:=Int.mul_le_mul_of_nonneg_right h2 h3.1
 generalize a.1*(3600000-r)=p at *
 generalize a.2*(3600000-r)=q at *
 generalize b.1*r=u at *
 generalize b.2*r=v at *
 omega
theorem ins_ord {f:Int→Int×Int} (hf:∀h,(f h).1≤(f h).2) (ms:Int):(NO.insA f ms).1≤(NO.insA f ms).2:=by
 unfold NO.insA
 split
 ·exact hf _
 ·exact lin_ord (hf _) (hf _) (by omega)
theorem span_ord {f:Int→Int×Int} (hf:∀h,(f h).1≤(f h).2) (lo hi:Int):(NO.spanA f lo hi).1≤(NO.spanA f lo hi).2:=by
 have h:=NO.span_pt f (lo:=lo) (hi:=hi) (x:=lo) (.inl rfl)
 have:=ins_ord hf lo
 omega
theorem over_ord {f:Int→Int×Int} (hf:∀h,(f h).1≤(f h).2) {b:Int} (hb:0≤b) (lo hi:Int):(NO.overA f lo hi b).1≤(NO.overA f lo hi b).2:=by
 have h:=span_ord hf lo hi
 have hm:0≤NO.margA lo hi b:=by unfold NO.margA;split<;>omega
 unfold NO.overA
 dsimp only
 omega
theorem gF_ord (n h:Int):(gF pl nm n h).1≤(gF pl nm n h).2:=by
 unfold gF
 cases trkAt pl nm n with
 |none=>exact Int.le_refl _
 |some t=>exact gat_ord t h
theorem join_ord {a b:Int×Int} (h:a.1≤a.2):(NO.joinA a b).1≤(NO.joinA a b).2:=by
 unfold NO.joinA
 refine(turn_bd ?_).2.1
 unfold NO.hullA
 dsimp only
 omega
theorem gha_ord (hb:BkOk pl):(NO.ghaA (gF pl nm) (bF pl nm) lo hi).1≤(NO.ghaA (gF pl nm) (bF pl nm) lo hi).2:=by
 unfold NO.ghaA
 split
 ·exact(turn_bd (over_ord (gF_ord _) (bF_nn hb _) _ _)).2.1
 ·exact join_ord (turn_bd (over_ord (gF_ord _) (bF_nn hb _) _ _)).2.1
theorem dir_ord (hb:BkOk pl) (h:lo≤hi):(dirF pl nm lo hi).1≤(dirF pl nm lo hi).2:=by
 unfold dirF
 split
 ·unfold NO.betA
  refine(turn_bd ?_).2.1
  have:=NO.fl_mono h
  have:=NO.fl_up hi
  dsimp only
  omega
 ·exact gha_ord hb
theorem lh_bd (hb:BkOk pl) (hle:lo≤hi) (h:(whR pl nm lo hi).2=0):0≤(lhR pl nm lo hi lon).1.1∧(lhR pl nm lo hi lon).1.1≤(lhR pl nm lo hi lon).1.2∧(lhR pl nm lo hi lon).1.2≤43200000:=by
 rw[(lh_form h).2]
 exact turn_bd (by have:=dir_ord (nm:=nm) hb hle;dsimp only;omega)
theorem lh_zero:(lhR pl nm lo hi lon).2=(whR pl nm lo hi).2:=by
 unfold lhR
 split
 ·rfl
 ·rename_i h;exact(Decidable.byContradiction fun g=>h fun e=>g e.symm:(0:Int)=_)
theorem lh_dir (h:(whR pl nm lo hi).2=0):NO.HasD (lhR pl nm lo hi lon).1 0↔NO.HasD (dirF pl nm lo hi) (-lon):=by
 rw[(lh_form h).2]
 exact NO.lha_has (L:=(lon%21600000,lon%21600000)) (lon:=lon) (x:=0) (k:=-(lon/21600000)) (by congr 1<;>omega)
theorem ag_dir (hb:BkOk pl) (hle:lo≤hi) (h:agR pl nm lo hi lon=(true,0)):(whR pl nm lo hi).2=0∧NO.HasD (dirF pl nm lo hi) (-lon):=by
 unfold agR at h
 split at h
 ·cases h
 ·rename_i h0
  rw[lh_zero] at h0
  have h0:(whR pl nm lo hi).2=0:=Decidable.byContradiction h0
  refine⟨h0,(lh_dir h0).1 ?_⟩
  have h1:=congrArg Prod.fst h
  dsimp only at h1
  rw[Bool.or_eq_true,decide_eq_true_eq,decide_eq_true_eq] at h1
  exact NO.agree0 h1 (lh_bd hb hle h0).2.1
theorem ag_of (hb:BkOk pl) (hle:lo≤hi) (h0:(whR pl nm lo hi).2=0) (h:NO.HasD (dirF pl nm lo hi) (-lon)):agR pl nm lo hi lon=(true,0):=by
 obtain⟨k,k1,k2⟩:=(lh_dir (lon:=lon) h0).2 h
 unfold agR
 rw[if_neg (by rw[lh_zero,h0];simp)]
 refine congrArg (fun b=>(b,(0:Int))) ?_
 rw[Bool.or_eq_true,decide_eq_true_eq]
 exact .inl (by omega)
theorem transit_dir (hb:BkOk pl) {l0 h0 l1 h1:Int} (e0:l0≤h0) (e1:l1≤h1) (hc:(l0=l1∧h0=h1)∨h0≤l1) (hw:h1-l0<86400000) (a0:agR pl nm l0 h0 lon=(true,0)) (a1:agR pl nm l1 h1 lon=(true,0)) :
  (whR pl nm l0 h1).2=0∧NO.HasD (lhR pl nm l0 h1 lon).1 0:=by
 obtain⟨z0,d0⟩:=ag_dir hb e0 a0
 obtain⟨z1,d1⟩:=ag_dir hb e1 a1
 have y0:=wh_zero.1 z0
 have y1:=wh_zero.1 z1
 have hz:(whR pl nm l0 h1).2=0:=wh_zero.2 ⟨⟨y0.1.1,by omega,y1.1.2.2⟩,y0.2.1,hw,by
  rcases y0.2.2.2 with h|h
  ·exact .inl h
  ·rcases y1.2.2.2 with g|g
   ·exact .inl g
   ·exact .inr ⟨h.1,g.2⟩⟩
 refine⟨hz,(lh_dir hz).2 ?_⟩
 unfold dirF at d0 d1 ⊢
 split
 ·rename_i ha
  rw[if_pos ha] at d0
  exact NO.bet_sub (Int.le_refl _) (by omega) d0
 ·rename_i ha
  rw[if_neg ha] at d0 d1
  exact NO.gha_transit (bF_nn hb) e0 e1 hc hw d0 d1
theorem aries_day (hb:BkOk pl) (fr:Int) (h : -70368744177664≤fr∧fr+86400000≤70368744177664):∃k:Nat,k<24∧agR pl ariesN (fr+k*3600000) (fr+(k+1)*3600000) lon=(true,0):=by
 obtain⟨k,hk,hd⟩:=NO.bet_day fr (-lon)
 refine⟨k,hk,ag_of hb (by omega) (wh_zero.2 ⟨⟨by omega,by omega,by omega⟩,.inl rfl,by omega,.inl rfl⟩) ?_⟩
 unfold dirF
 rw[if_pos rfl]
 exact hd
theorem wh_far (hb:BkOk pl) (h:(whR pl nm lo hi).2=0) (ha:nm≠ariesN):lo<300001*86400000∧hi<300001*86400000:=by
 obtain⟨_,_,_,h4⟩:=wh_zero.1 h
 obtain⟨h5,h6⟩:=h4.resolve_left ha
 obtain⟨t,ht⟩:=Option.isSome_iff_exists.1 h5
 obtain⟨u,hu⟩:=Option.isSome_iff_exists.1 h6
 have:=(trk_of hb ht).2
 have:=(trk_of hb hu).2
 omega
/-! ### The declination -/
theorem le_at {t:TrkT} (h:TrkF t) {i:Int} (h0:0≤i) (h1:i≤24) : -54000≤nth t.dl i∧nth t.dl i≤54000:=h.d _ (nth_in h0 (by have:=h.dl;omega))
theorem dat_ord (t:TrkT) (h:Int):(dAt t h).1≤(dAt t h).2:=by unfold dAt;dsimp only;omega
theorem dat_bd {t:TrkT} (hf:TrkF t) {h:Int} (h0:0≤h∧h≤24):(dAt t h).1≤5399950∧-5399950≤(dAt t h).2:=by
 have:=le_at hf h0.1 h0.2
 unfold dAt
 dsimp only
 omega
theorem lin_bd {a b:Int×Int} {r x:Int} (h3:0≤r∧r≤3600000):(a.1≤x→b.1≤x→(NO.linA a b r 3600000).1≤x)∧(x≤a.2→x≤b.2→x≤(NO.linA a b r 3600000).2):=by
 unfold NO.linA
 dsimp only
 constructor
 ·intro h1 h2
  have m1:=Int.mul_le_mul_of_nonneg_right h1 (show 0≤3600000-r by omega)
  have m2:=Int.mul_le_mul_of_nonneg_right h2 h3.1
  generalize a.1*(3600000-r)=p at *
  generalize b.1*r=u at *
  have e:x*(3600000-r)+x*r=x*3600000:=by rw[←Int.mul_add];congr 1;omega
  generalize x*(3600000-r)=q at *
  generalize x*r=v at *
  omega
 ·intro h1 h2
  have m1:=Int.mul_le_mul_of_nonneg_right h1 (show 0≤3600000-r by omega)
  have m2:=Int.mul_le_mul_of_nonneg_right h2 h3.1
  generalize a.2*(3600000-r)=p at *
  generalize b.2*r=u at *
  have e:x*(3600000-r)+x*r=x*3600000:=by rw[←Int.mul_add];congr 1;omega
  generalize x*(3600000-r)=q at *
  generalize x*r=v at *
  omega
theorem ins_bd {f:Int→Int×Int} {ms:Int} (hm:0≤ms∧ms≤86400000) {x y:Int} (hf:∀h,0≤h∧h≤24→(f h).1≤x∧y≤(f h).2):(NO.insA f ms).1≤x∧y≤(NO.insA f ms).2:=by
 unfold NO.insA
 split
 ·exact hf _ (by omega)
 ·have h1:=hf (ms/3600000) (by omega)
  have h2:=hf (ms/3600000+1) (by omega)
  exact⟨(lin_bd (by omega)).1 h1.1 h2.1,(lin_bd (by omega)).2 h1.2 h2.2⟩
theorem over_bd {f:Int→Int×Int} {a b be:Int} (hb:0≤be) (hm:0≤a∧a≤b∧b≤86400000) {x y:Int} (hf:∀h,0≤h∧h≤24→(f h).1≤x∧y≤(f h).2):(NO.overA f a b be).1≤x∧y≤(NO.overA f a b be).2:=by
 have h:=NO.span_pt f (lo:=a) (hi:=b) (x:=a) (.inl rfl)
 have g:=ins_bd (f:=f) (ms:=a) (by omega) hf
 have hm:0≤NO.margA a b be:=by unfold NO.margA;split<;>omega
 unfold NO.overA
 dsimp only
 omega
theorem dur_dec {t:TrkT} (hf:TrkF t) {a b:Int} (hm:0≤a∧a≤b∧b≤86400000) : -5400000≤(durG t a b).2.1.1∧(durG t a b).2.1.1≤(durG t a b).2.1.2∧(durG t a b).2.1.2≤5400000:=by
 have o:=over_ord (dat_ord t) hf.be.1 a b
 have g:=over_bd (f:=dAt t) hf.be.1 hm (x:=5399950) (y:=-5399950) fun h hh=>dat_bd hf hh
 unfold durG latA
 dsimp only
 omega
theorem wh_dec (hb:BkOk pl) (h:(whR pl nm lo hi).2=0) : -5400000≤(whR pl nm lo hi).1.2.1.1∧(whR pl nm lo hi).1.2.1.1≤(whR pl nm lo hi).1.2.1.2∧(whR pl nm lo hi).1.2.1.2≤5400000:=by
 obtain⟨h1,h2,h3,h4⟩:=wh_zero.1 h
 have hle:=h1.2.1
 unfold whR
 rw[if_neg (by simpa using h1),if_neg (by rintro⟨a,b⟩;rcases h2 with h|h;exact a h;exact b h),if_neg (by omega)]
 by_cases ha:nm=ariesN
 ·rw[if_pos ha]
  dsimp only
  omega
 ·rw[if_neg ha]
  obtain⟨h5,h6⟩:=h4.resolve_left ha
  obtain⟨t,ht⟩:=Option.isSome_iff_exists.1 h5
  obtain⟨u,hu⟩:=Option.isSome_iff_exists.1 h6
  unfold bodR
  by_cases hd:lo/86400000=hi/86400000
  ·rw[if_pos hd]
   unfold durR
   rw[ht]
   exact dur_dec (trk_of hb ht).1 (by omega)
  ·rw[if_neg hd,if_neg (by rw[dur_zero.2 h5];simp),if_neg (by rw[dur_zero.2 h6];simp)]
   unfold durR
   rw[ht,hu]
   have d1:=dur_dec (trk_of hb ht).1 (a:=lo-lo/86400000*86400000) (b:=86400000) (by omega)
   have d2:=dur_dec (trk_of hb hu).1 (a:=0) (b:=hi-hi/86400000*86400000) (by omega)
   unfold joinG NO.hullA
   dsimp only
   omega
end
theorem nfl_c {n d:Int} (h:(-4611686018427387904≤n∧n≤4611686018427387904)∧0<d):Cont Tryz.prog 264 [.int .i64 n,.int .i64 d] (.int .i64 (n/d)):=fun w=>by
 have e5:=ediv_in (k:=4611686018427387904) h.2 h.1.1 h.1.2
 refine enter0 Tryz.func264 rfl rfl rfl ?_
 repeat' (first|(refine nxV ?_)|(refine nSS ?_)|(refine nS1 fun _=>?_)|(refine nMM ?_)|(refine nM1 fun _=>?_)|(refine nxG ?_)|(refine nxX ?_)|(refine G.cN rfl (fun hc=>?_) (fun hc=>?_)<;>(try first|exact hc.elim|(exfalso;omega))))
 ·obtain⟨g1,g2,g3⟩:=(floor_eq h.2).1 hc
  have g4:=Int.ediv_neg_of_neg_of_pos g3 h.2
  exact X.ret (vs:=[_]) rfl ⟨rfl,rfl⟩ rfl (fun w hw=>⟨by rw[IntWalk.i64_in (n.tdiv d) (by omega),IntWalk.i64_in (n.tdiv d-1) (by omega),g1],hw.ext⟩)
 ·obtain⟨g1,g2⟩:=(floor_eq h.2).2 hc
  exact X.ret (vs:=[_]) rfl ⟨rfl,rfl⟩ rfl (fun w hw=>⟨by rw[IntWalk.i64_in (n.tdiv d) (by omega),g1],hw.ext⟩)
theorem nce_c {n d:Int} (h:(-4611686018427387904≤n∧n≤4611686018427387904)∧0<d):Cont Tryz.prog 248 [.int .i64 n,.int .i64 d] (.int .i64 (-(-n/d))):=fun w=>by
 have q1:=nfl_c (n:=-n) (d:=d) (by omega)
 have e5:=ediv_in (k:=4611686018427387904) (a:=-n) h.2 (by omega) (by omega)
 generalize -n/d=q at *
 refine enter0 Tryz.func248 rfl rfl rfl ?_
 repeat' (first|(show YK _ _ _ _ _ _ _;first|refine YK.mk (zcA (q1) ⟨rfl,rfl,rfl⟩) ?_)|(refine nxV ?_)|(refine nSS ?_)|(refine nS1 fun _=>?_)|(refine nMM ?_)|(refine nM1 fun _=>?_)|(show YG _ _ _ _ _ _ _ _;refine YG.mk (fun hb=>by(try(have hc:=And.left hb;have hb:=And.right hb;rw[hc]));(try rw[hb]);first|exact(zcA (q1) ⟨rfl,rfl,rfl⟩)|exact V.y vAuto) ?_)|(refine nxG ?_)|(refine nxX ?_)|(refine G.cN rfl (fun hc=>?_) (fun hc=>?_)<;>(try first|exact hc.elim|(exfalso;omega))))
 all_goals exact X.ret1
abbrev smA (a:Int×Int):Prop:=-10000000000≤a.1∧a.1≤10000000000∧-10000000000≤a.2∧a.2≤10000000000
theorem mul_sm {a r:Int} (h : -10000000000≤a∧a≤10000000000) (hr:0≤r∧r≤3600000) : -36000000000000000≤a*r∧a*r≤36000000000000000:=by
 have h1:=Int.mul_le_mul_of_nonneg_right h.1 hr.1
 have h2:=Int.mul_le_mul_of_nonneg_right h.2 hr.1
 omega
theorem nlin_c {a b:Int×Int} {r:Int} (ka:smA a) (kb:smA b) (hr:0≤r∧r≤3600000):Cont Tryz.prog 262 [arcV a.1 a.2,arcV b.1 b.2,.int .i64 r,.int .i64 3600000] (arcV (NO.linA a b r 3600000).1 (NO.linA a b r 3600000).2):=fun w=>by
 obtain⟨a1,a2⟩:=a
 obtain⟨b1,b2⟩:=b
 unfold NO.linA
 dsimp only at *
 have gg1:=mul_sm (a:=a1) (r:=3600000-r) (by omega) (by omega)
 have gg2:=mul_sm (a:=b1) (r:=r) (by omega) hr
 have gg3:=mul_sm (a:=a2) (r:=3600000-r) (by omega) (by omega)
 have gg4:=mul_sm (a:=b2) (r:=r) (by omega) hr
 have q1:=nfl_c (n:=a1*(3600000-r)+b1*r) (d:=3600000) (by omega)
 have q2:=nce_c (n:=a2*(3600000-r)+b2*r) (d:=3600000) (by omega)
 generalize (a1*(3600000-r)+b1*r)/3600000=p at *
 generalize -(-(a2*(3600000-r)+b2*r)/3600000)=q at *
 refine enter0 Tryz.func262 rfl rfl rfl ?_
 repeat' (first|(refine nxN ?_)|(refine G.mixedM 1 [.go 0,.go 1,.go 2,.go 3,.go 4,.go 5,.go 6,.go 7,.go 8,.go 9,.go 10,.go 11,.go 13,.go 14,.go 15,.go 16,.go 17,.go 18,.go 19,.go 20,.go 21,.go 22,.go 23,.go 24,.go 12,.go 25,.go 26,.go 27] [false,true,true] ?_;dsimp only[maskH])|(show YK _ _ _ _ _ _ _;first|refine YK.mk (zcA (q1) ⟨rfl,rfl,rfl⟩) ?_|refine YK.mk (zcA (q2) ⟨rfl,rfl,rfl⟩) ?_)|(refine nxV ?_)|(refine nSS ?_)|(refine nS1 fun _=>?_)|(refine nMM ?_)|(refine nM1 fun _=>?_)|(show YG _ _ _ _ _ _ _ _;refine YG.mk (fun hb=>by(try(have hc:=And.left hb;have hb:=And.right hb;rw[hc]));(try rw[hb]);first|exact(zcA (q1) ⟨rfl,rfl,rfl⟩)|exact(zcA (q2) ⟨rfl,rfl,rfl⟩)|exact V.y vAuto) ?_)|(refine nxG ?_)|(refine nxX ?_)|(refine G.cN rfl (fun hc=>?_) (fun hc=>?_)<;>(try first|exact hc.elim|(exfalso;omega))))
 all_goals exact X.ret (vs:=[_]) rfl ⟨⟨_,_,_,_,rfl,(by exact memA),lenA,by decide +kernel,rfl⟩,rfl⟩ rfl rE
theorem nar_c {n:Int} (h : -10000000000≤n∧n≤10000000000):Cont Tryz.prog 234 [.int .i64 n] (arcV (n-50) (n+50)):=fun w=>by
 refine enter0 Tryz.func234 rfl rfl rfl ?_
 repeat' (first|(refine nxN ?_)|(refine nxV ?_)|(refine nSS ?_)|(refine nS1 fun _=>?_)|(refine nMM ?_)|(refine nM1 fun _=>?_)|(refine nxG ?_)|(refine nxX ?_)|(refine G.cN rfl (fun hc=>?_) (fun hc=>?_)<;>(try first|exact hc.elim|(exfalso;omega))))
 all_goals exact X.ret (vs:=[_]) rfl ⟨⟨_,_,_,_,rfl,(by exact memA),lenA,by decide +kernel,rfl⟩,rfl⟩ rfl rE
end Go.Proofs.YtjmdeplmenbmmaaGreat
namespace Go.Proofs.YtjmdeplmenbmmaaGreat
open Go.RowKit Go.Shelf
attribute [local go_sem] Oper.semAt_some
abbrev pieV (b3 b4 b5 b7:Nat):Value:=.func (.func 263) #[] #[.pointer (some ⟨b7,0,none⟩),.pointer (some ⟨b3,0,none⟩),.pointer (some ⟨b4,0,none⟩),.pointer (some ⟨b5,0,none⟩)]
abbrev insV (b5:Nat):Value:=.func (.func 261) #[] #[.pointer (some ⟨b5,0,none⟩)]
theorem pieces_L (lo hi:Int) (fa:FuncId) (bs:Array Value):ContL Tryz.prog (fun _=>True) [] 247 [.int .i64 lo,.int .i64 hi,.func (.func fa) #[] bs] (fun _:Nat×Nat×Nat×Nat=>True) (fun s=>pieV s.1 s.2.1 s.2.2.1 s.2.2.2)
  (fun s=>[Hl.blk s.2.2.2 43 [insV s.2.2.1],Hl.blk s.2.2.1 43 [.func (.func fa) #[] bs],Hl.blk s.2.1 3 [.int .i64 hi],Hl.blk s.1 3 [.int .i64 lo]]):=fun w0 HR w _ hw=>by
 change St w0 HR w at hw
 refine enterU Tryz.func247 rfl rfl rfl hw ?_
 repeat' (first|(refine nxN ?_)|(show RS _ _ _ _ _ _ _ (⟨some 7,.alloc _,_,_,_,_⟩::_);refine RS.allocA (u:=.nilFunc) (cs:=[.nilFunc]) (fun b=>?_) (by kernel_rfl) (by rfl) (by rfl))|(show YK _ _ _ _ _ ⟨_,.makeFunc _ _ _,_,_,_,_⟩ _;refine YK.ofV (y_makeFunc (vs:=[_,_,_,_]) ⟨rfl,rfl,rfl,rfl,rfl⟩) ?_)|(refine nxV ?_)|(refine nSS ?_)|(refine nS1 fun _=>?_)|(refine nMM ?_)|(refine nM1 fun _=>?_)|(refine nxG ?_)|(refine nxX ?_)|(refine G.cN rfl (fun hc=>?_) (fun hc=>?_)<;>(try first|exact hc.elim|(exfalso;omega))))
 all_goals exact X.ret (vs:=[_]) rfl ⟨rfl,rfl⟩ rfl (fun w hw=>⟨(_,_,_,_),trivial,rfl,hw⟩)
def AtC (C:World→Prop) (fa:FuncId) (bs:Array Value) (at_:Int→Int×Int):Prop:=isGo Tryz.prog fa=true∧∀h:Int,0≤h∧h≤24→(smA (at_ h)∧ContIn Tryz.prog C fa ([.int .i64 h]++bs.toList) (arcV (at_ h).1 (at_ h).2))
theorem ins_c {C:World→Prop} {fa:FuncId} {bs:Array Value} {at_:Int→Int×Int} (hk:∀w w',C w→Below w.heap.size w w'→C w') (ha:AtC C fa bs at_) {b:Nat} {ms:Int} (hm:0≤ms∧ms≤86400000) :
  ContIn Tryz.prog (fun w=>C w∧w.cell? ⟨b,0,none⟩=some (.func (.func fa) #[] bs)) 261 ([.int .i64 ms]++(#[.pointer (some ⟨b,0,none⟩)]:Array Value).toList) (arcV (NO.insA at_ ms).1 (NO.insA at_ ms).2):=fun w hw0=>by
 obtain⟨hgo,hat⟩:=ha
 have hcl:∀k v,[Value.func (.func fa) #[] bs][k]?=some v→w.cell? ⟨b,k,none⟩=some v:=fun k v hk=>by
  match k,hk with
  |0,hk=>simp at hk;subst hk;exact hw0.2
  |k+1,hk=>simp at hk
 have q0:=(hat (ms/3600000) (by omega)).2
 have s0:=(hat (ms/3600000) (by omega)).1
 unfold NO.insA
 have e1:ms.tdiv 3600000=ms/3600000:=Int.tdiv_eq_ediv_of_nonneg hm.1
 have e2:ms.tmod 3600000=ms%3600000:=Int.tmod_eq_emod_of_nonneg hm.1
 by_cases hz:ms%3600000=0
 ·rw[if_pos hz]
  generalize at_ (ms/3600000)=r at *
  refine enter Tryz.func261 rfl rfl rfl (Hp:=[]) (fun h hm=>by cases hm) ?_
  repeat' (first|(refine nxN ?_)|(show VK _ _ _ _ _ ⟨_,.load 43 _,_,_,_,_⟩ _;refine VK.mk (y_loadX (by rfl) (hcl _ _ (by rfl)) (by decide +kernel)) ?_)|(show YK _ _ _ _ _ ⟨_,.load 43 _,_,_,_,_⟩ _;refine YK.ofV (y_loadX (by rfl) (hcl _ _ (by rfl)) (by decide +kernel)) ?_)|(show VG _ _ _ _ _ _ ⟨_,.load 43 _,_,_,_,_⟩ _;refine VG.mk (fun hb=>by(try(have hc:=And.left hb;have hb:=And.right hb;rw[hc]));(try rw[hb]);exact y_loadX (by rfl) (hcl _ _ (by rfl)) (by decide +kernel)) ?_)|(show YG _ _ _ _ _ _ ⟨_,.load 43 _,_,_,_,_⟩ _;refine YG.mk (fun hb=>by(try(have hc:=And.left hb;have hb:=And.right hb;rw[hc]));(try rw[hb]);exact V.y (y_loadX (by rfl) (hcl _ _ (by rfl)) (by decide +kernel))) ?_)|(show YK _ _ _ _ _ ⟨_,.call { callee:=.value _,args:=_,argTypes:=_ },_,_,_,_⟩ _;refine YK.mk (y_callV (f:=fa) (by rfl) q0 (fun w' hw'=>hk _ _ hw0.1 hw'.ext) ⟨rfl,rfl⟩ hgo) ?_)|(refine nxV ?_)|(refine nSS ?_)|(refine nS1 fun _=>?_)|(refine nMM ?_)|(refine nM1 fun _=>?_)|(refine nxG ?_)|(refine G.mA 4 [.go 0,.go 1,.go 3,.go 4,.go 5,.go 7,.go 2,.go 6,.go 8,.go 9] ?_)|(refine nxX ?_)|(refine G.cN rfl (fun hc=>?_) (fun hc=>?_)<;>(try first|exact hc.elim|(exfalso;omega))))
  all_goals first
   |(exfalso;omega)
   |exact X.ret (vs:=[_]) rfl ⟨⟨_,_,_,_,rfl,(by exact memA),lenA,by decide +kernel,rfl⟩,rfl⟩ rfl rE
 ·rw[if_neg hz]
  have q1:=(hat (ms/3600000+1) (by omega)).2
  have s1:=(hat (ms/3600000+1) (by omega)).1
  have q2:=nlin_c s0 s1 (r:=ms%3600000) (by omega)
  generalize NO.linA (at_ (ms/3600000)) (at_ (ms/3600000+1)) (ms%3600000) 3600000=R at *
  generalize at_ (ms/3600000)=r0 at *
  generalize at_ (ms/3600000+1)=r1 at *
  refine enter Tryz.func261 rfl rfl rfl (Hp:=[]) (fun h hm=>by cases hm) ?_
  repeat' (first|(refine nxN ?_)|(show VK _ _ _ _ _ ⟨_,.load 43 _,_,_,_,_⟩ _;refine VK.mk (y_loadX (by rfl) (hcl _ _ (by rfl)) (by decide +kernel)) ?_)|(show YK _ _ _ _ _ ⟨_,.load 43 _,_,_,_,_⟩ _;refine YK.ofV (y_loadX (by rfl) (hcl _ _ (by rfl)) (by decide +kernel)) ?_)|(show VG _ _ _ _ _ _ ⟨_,.load 43 _,_,_,_,_⟩ _;refine VG.mk (fun hb=>by(try(have hc:=And.left hb;have hb:=And.right hb;rw[hc]));(try rw[hb]);exact y_loadX (by rfl) (hcl _ _ (by rfl)) (by decide +kernel)) ?_)|(show YG _ _ _ _ _ _ ⟨_,.load 43 _,_,_,_,_⟩ _;refine YG.mk (fun hb=>by(try(have hc:=And.left hb;have hb:=And.right hb;rw[hc]));(try rw[hb]);exact V.y (y_loadX (by rfl) (hcl _ _ (by rfl)) (by decide +kernel))) ?_)|(show YK _ _ _ _ _ ⟨_,.call { callee:=.value _,args:=_,argTypes:=_ },_,_,_,_⟩ _;refine YK.mk (y_callV (f:=fa) (by rfl) q0 (fun w' hw'=>hk _ _ hw0.1 hw'.ext) ⟨rfl,rfl⟩ hgo) ?_)|(show YK _ _ _ _ _ ⟨_,.call { callee:=.value _,args:=_,argTypes:=_ },_,_,_,_⟩ _;refine YK.mk (y_callV (f:=fa) (by rfl) q1 (fun w' hw'=>hk _ _ hw0.1 hw'.ext) ⟨rfl,rfl⟩ hgo) ?_)|(show YK _ _ _ _ _ _ _;first|refine YK.mk (zcA (q2) ⟨rfl,rfl,rfl,rfl,rfl⟩) ?_)|(refine nxV ?_)|(refine nSS ?_)|(refine nS1 fun _=>?_)|(refine nMM ?_)|(refine nM1 fun _=>?_)|(show YG _ _ _ _ _ _ _ _;refine YG.mk (fun hb=>by(try(have hc:=And.left hb;have hb:=And.right hb;rw[hc]));(try rw[hb]);first|exact(zcA (q2) ⟨rfl,rfl,rfl,rfl,rfl⟩)|exact V.y vAuto) ?_)|(refine nxG ?_)|(refine G.mA 4 [.go 0,.go 1,.go 3,.go 4,.go 5,.go 7,.go 2,.go 6,.go 8,.go 9] ?_)|(refine nxX ?_)|(refine G.cN rfl (fun hc=>?_) (fun hc=>?_)<;>(try first|exact hc.elim|(exfalso;omega))))
  all_goals first
   |(exfalso;omega)
   |exact X.ret (vs:=[_]) rfl ⟨⟨_,_,_,_,rfl,(by exact memA),lenA,by decide +kernel,rfl⟩,rfl⟩ rfl rE
end Go.Proofs.YtjmdeplmenbmmaaGreat
namespace Go.Proofs.YtjmdeplmenbmmaaGreat
open Go.RowKit Go.Shelf
attribute [local go_sem] Oper.semAt_some
def pieL (at_:Int→Int×Int) (lo hi:Int):List (Int×Int):=NO.insA at_ lo::NO.insA at_ hi::(NO.hoursL lo hi).map at_
abbrev encA (x:Int×Int):Array Value:=#[arcV x.1 x.2]
def PrA (l:List (Int×Int)) (pre:List (Int×Int)) (x:Int×Int):Prop:=pre=l.take pre.length∧l[pre.length]?=some x
theorem hours_len {lo hi:Int} : (NO.hoursL lo hi).length=((hi-1)/3600000-lo/3600000).toNat:=by simp[NO.hoursL]
theorem hours_at {lo hi:Int} {j:Nat} (h:j<((hi-1)/3600000-lo/3600000).toNat):(NO.hoursL lo hi)[j]?=some (lo/3600000+1+(j:Int)):=by
 unfold NO.hoursL
 rw[List.getElem?_map,List.getElem?_range h]
 rfl
theorem pie_at {at_:Int→Int×Int} {lo hi:Int} {j:Nat} (h:j<((hi-1)/3600000-lo/3600000).toNat):(pieL at_ lo hi)[j+2]?=some (at_ (lo/3600000+1+(j:Int))):=by
 unfold pieL
 rw[List.getElem?_cons_succ,List.getElem?_cons_succ,List.getElem?_map,hours_at h]
 rfl
theorem pie_len {at_:Int→Int×Int} {lo hi:Int} : (pieL at_ lo hi).length=((hi-1)/3600000-lo/3600000).toNat+2:=by
 unfold pieL
 simp only[List.length_cons,List.length_map]
 rw[hours_len]
theorem take_more {l pre:List (Int×Int)} {x:Int×Int} (h:PrA l pre x):pre++[x]=l.take (pre.length+1):=by
 rw[List.take_add_one,h.2,←h.1]
 rfl
section
variable {C:World→Prop} {fa:FuncId} {bs:Array Value} {at_:Int→Int×Int} {lo hi:Int}
structure Ip (J:List (Int×Int)→World→Prop) (b3 b4 b5 b7:Nat) (fa:FuncId) (bs:Array Value) (lo hi:Int) (pre:List (Int×Int)) (W:World):Prop where
 hJ:J pre W
 c7:W.cell? ⟨b7,0,none⟩=some (insV b5)
 c5:W.cell? ⟨b5,0,none⟩=some (.func (.func fa) #[] bs)
 c4:W.cell? ⟨b4,0,none⟩=some (.int .i64 hi)
 c3:W.cell? ⟨b3,0,none⟩=some (.int .i64 lo)
theorem Ip.below {J:List (Int×Int)→World→Prop} {b3 b4 b5 b7 B:Nat} {pre:List (Int×Int)} {W W':World} (hJ:AbidesFrom B J) (h:Ip J b3 b4 b5 b7 fa bs lo hi pre W) (hb:Below W.heap.size W W'):Ip J b3 b4 b5 b7 fa bs lo hi pre W' :=
 ⟨hJ pre W W' none h.hJ ⟨hb.os,hb.tape,hb.output,hb.size,fun k hk _=>hb.block k hk⟩ (fun r e=>by cases e),(hb.cell (World.block_lt_of_cell? W _ h.c7)).trans h.c7,(hb.cell (World.block_lt_of_cell? W _ h.c5)).trans h.c5,(hb.cell (World.block_lt_of_cell? W _ h.c4)).trans h.c4,(hb.cell (World.block_lt_of_cell? W _ h.c3)).trans h.c3⟩
theorem Ip.yield {J:List (Int×Int)→World→Prop} {b3 b4 b5 b7:Nat} {pre pre':List (Int×Int)} {W W':World} (h:Ip J b3 b4 b5 b7 fa bs lo hi pre W) (hJ:J pre' W') (hk:KeepL [b7,b5,b4,b3] W W'):Ip J b3 b4 b5 b7 fa bs lo hi pre' W' :=
 ⟨hJ,(World.cell?_of_block (a:=⟨b7,0,none⟩) (hk _ (by simp))).trans h.c7,(World.cell?_of_block (a:=⟨b5,0,none⟩) (hk _ (by simp))).trans h.c5,(World.cell?_of_block (a:=⟨b4,0,none⟩) (hk _ (by simp))).trans h.c4,(World.cell?_of_block (a:=⟨b3,0,none⟩) (hk _ (by simp))).trans h.c3⟩
set_option maxRecDepth 100000 in
set_option maxHeartbeats 4000000 in
theorem pie_own (hk:∀w w',C w→Below w.heap.size w w'→C w') (ha:AtC C fa bs at_) (hl:0≤lo∧lo≤hi∧hi≤86400000) {n b3 b4 b5 b7:Nat} (hn:1≤n) {w:World}
  (c7:w.cell? ⟨b7,0,none⟩=some (insV b5)) (c5:w.cell? ⟨b5,0,none⟩=some (.func (.func fa) #[] bs)) (c4:w.cell? ⟨b4,0,none⟩=some (.int .i64 hi)) (c3:w.cell? ⟨b3,0,none⟩=some (.int .i64 lo)) :
  SeqPl Fence.wide n Tryz.prog 263 #[.pointer (some ⟨b7,0,none⟩),.pointer (some ⟨b3,0,none⟩),.pointer (some ⟨b4,0,none⟩),.pointer (some ⟨b5,0,none⟩)] encA [b7,b5,b4,b3] C (PrA (pieL at_ lo hi)) (fun xs=>xs=pieL at_ lo hi) (fun _=>True) w:=fun l J Jx W hW aJ hJC hY h0=>by
 have i0:Ip J b3 b4 b5 b7 fa bs lo hi [] W:=⟨h0,(hW.cell (World.block_lt_of_cell? w _ c7)).trans c7,(hW.cell (World.block_lt_of_cell? w _ c5)).trans c5,(hW.cell (World.block_lt_of_cell? w _ c4)).trans c4,(hW.cell (World.block_lt_of_cell? w _ c3)).trans c3⟩
 have q1:=fun(ms:Int) (hm:0≤ms∧ms≤86400000) (A:World) (hA:C A∧A.cell? ⟨b5,0,none⟩=some (.func (.func fa) #[] bs))=>ins_c hk ha (b:=b5) hm A hA
 have q2:=fun(h:Int) (hh:0≤h∧h≤24)=>(ha.2 h hh).2
 refine callsIn_of_wp Tryz.func263 rfl trivial ?_ rfl
 simp only[Tryz.ntmps263,List.size_toArray,List.length_cons,List.length_nil,Nat.reduceAdd,Nat.reduceSub,Array.replicate_succ,Array.replicate_zero,List.push_toArray,List.append_toArray,List.nil_append,List.cons_append]
 have d7:=i0.c7
 have d5:=i0.c5
 have d4:=i0.c4
 have d3:=i0.c3
 gi_wp2
 refine⟨trivial,(callsIn_wide.2 (q1 lo (by omega) W ⟨hJC _ _ i0.hJ,d5⟩)).mono ?_⟩
 rintro e w1 ⟨rfl,hb1⟩
 have i1:=i0.below aJ hb1
 obtain⟨fn,tmps,assign,body,hy,hR⟩:=hY [] (NO.insA at_ lo) w1 ⟨rfl,rfl⟩ i1.hJ
 gi_wp2
 refine hR.mono ?_
 rintro e w2 (⟨rfl,hJ2,hk2⟩|⟨rfl,hJx2⟩)
 ·have i2:=i1.yield hJ2 hk2
  clear hR hy i1 i0 d7 d5 d4 d3
  have d7:=i2.c7
  have d5:=i2.c5
  have d4:=i2.c4
  have d3:=i2.c3
  gi_wp2
  refine⟨trivial,(callsIn_wide.2 (q1 hi (by omega) w2 ⟨hJC _ _ i2.hJ,d5⟩)).mono ?_⟩
  rintro e w3 ⟨rfl,hb3⟩
  have i3:=i2.below aJ hb3
  obtain⟨fn,tmps,assign,body,hy,hR⟩:=hY ([]++[NO.insA at_ lo]) (NO.insA at_ hi) w3 ⟨rfl,rfl⟩ i3.hJ
  gi_wp2
  refine hR.mono ?_
  rintro e w4 (⟨rfl,hJ4,hk4⟩|⟨rfl,hJx4⟩)
  ·have i4:=i3.yield hJ4 hk4
   clear hR hy i2 i3 d7 d5 d4 d3
   have d3:=i4.c3
   have hlo:lo.tdiv 3600000=lo/3600000:=Int.tdiv_eq_ediv_of_nonneg hl.1
   gi_wp2
   gi_loopw [6] (fun i wr=>∃j:Nat,j≤((hi-1)/3600000-lo/3600000).toNat∧i=.int .i64 (lo/3600000+1+(j:Int))∧Ip J b3 b4 b5 b7 fa bs lo hi ((pieL at_ lo hi).take (j+2)) wr) (fun i _=>100-(intOf i).toNat)
   case atStart=>exact⟨0,Nat.zero_le _,by simp,by simpa [pieL] using i4⟩
   case round =>
    clear i4 d3 hlo q1
    obtain⟨j,hj,rfl,hI⟩:=hrel
    have d5:=hI.c5
    have d4:=hI.c4
    by_cases hlt:j<((hi-1)/3600000-lo/3600000).toNat
    ·have hc1:(lo/3600000+1+(j:Int))*3600000<hi:=by omega
     have hb1:0≤lo/3600000+1+(j:Int)∧lo/3600000+1+(j:Int)≤24:=by omega
     have hq:=q2 _ hb1
     have hx:=pie_at (at_:=at_) hlt
     generalize hh:lo/3600000+1+(j:Int)=h at *
     have eg:∀args w,(callFunc fa args).run Tryz.prog w=.ok (.enter fa args) w:=fun args w=>run_isGo ha.1 args w
     gi_wp2
     have hq2:=hq wr (hJC _ _ hI.hJ)
     rw[show ([Value.int .i64 h]++bs.toList).toArray=#[Value.int .i64 h]++bs by simp] at hq2
     refine⟨trivial,(callsIn_wide.2 hq2).mono ?_⟩
     rintro e w5 ⟨rfl,hb5⟩
     have hI5:=hI.below aJ hb5
     have hpr:PrA (pieL at_ lo hi) ((pieL at_ lo hi).take (j+2)) (at_ h):=by
      have hlen:((pieL at_ lo hi).take (j+2)).length=j+2:=by rw[List.length_take,pie_len];omega
      refine⟨by rw[hlen],by rw[hlen];exact hx⟩
     obtain⟨fn,tmps,assign,body,hy,hR⟩:=hY _ (at_ h) w5 hpr hI5.hJ
     gi_wp2
     refine hR.mono ?_
     rintro e w6 (⟨rfl,hJ6,hk6⟩|⟨rfl,hJx6⟩)
     ·have hI6:=hI5.yield hJ6 hk6
      have hlen:((pieL at_ lo hi).take (j+2)).length=j+2:=by rw[List.length_take,pie_len];omega
      rw[take_more hpr,hlen] at hI6
      clear hR hy
      gi_wp2
      go_roundw
      case rel=>exact⟨j+1,by omega,by rw[←hh];congr 1;omega,hI6⟩
      case measure=>simp[intOf];omega
     ·gi_wp2
      refine bodyPost_ret (results_none rfl _ _ _) rfl ?_
      exact⟨⟨_,rfl⟩,.inr ⟨_,trivial,hJx6⟩⟩
    ·have hc1:¬(lo/3600000+1+(j:Int))*3600000<hi:=by omega
     gi_wp2
     go_end0
     have hend:=hI.hJ
     rw[List.take_of_length_le (by rw[pie_len];omega)] at hend
     exact⟨⟨_,rfl⟩,.inl hend⟩
  ·gi_wp2
   refine bodyPost_ret (results_none rfl _ _ _) rfl ?_
   exact⟨⟨_,rfl⟩,.inr ⟨_,trivial,hJx4⟩⟩
 ·gi_wp2
  refine⟨fun f h=>(by cases h),?_⟩
  gi_wp2
  refine bodyPost_ret (results_none rfl _ _ _) rfl ?_
  exact⟨⟨_,rfl⟩,.inr ⟨_,trivial,hJx2⟩⟩
end
end Go.Proofs.YtjmdeplmenbmmaaGreat
