/- Joined texts: Brg3, ArcE, ArcF, ArcG. -/
import Derived.Test.YtjmdeplmenbmmaaGreatDoorV05
set_option linter.unusedVariables false
namespace Go.Proofs.YtjmdeplmenbmmaaGreatDoor.TT
def crI (p q:Int×Int):Int:=p.1*q.2-p.2*q.1
theorem fst_all {P:Int×Int→Prop} (tr:∀p q r,P p→P q→P r→0≤crI p q→0≤crI q r→0≤crI p r):∀(l:List (Int×Int)) (f:Int×Int) (seen:List (Int×Int)),P f→(∀s∈seen,P s)→(∀s∈l,P s)→(∀s∈seen,0≤crI f s) →
  P (l.foldl (fun f c=>if befI c f=true then c else f) f)∧(∀s∈seen,0≤crI (l.foldl (fun f c=>if befI c f=true then c else f) f) s)∧∀s∈l,0≤crI (l.foldl (fun f c=>if befI c f=true then c else f) f) s
 |[],f,seen,hf,_,_,hs=>⟨hf,hs,fun s h=>nomatch h⟩
 |c::l,f,seen,hf,hp,hl,hs=>by
  have hc:=hl c (.head _)
  have hl':∀s∈l,P s:=fun s h=>hl s (.tail _ h)
  have key:∀g,P g→(∀s∈c::seen,0≤crI g s)→P (l.foldl (fun f c=>if befI c f=true then c else f) g)∧(∀s∈seen,0≤crI (l.foldl (fun f c=>if befI c f=true then c else f) g) s)∧∀s∈c::l,0≤crI (l.foldl (fun f c=>if befI c f=true then c else f) g) s:=fun g hg h=>by
   obtain⟨a1,a2,a3⟩:=fst_all tr l g (c::seen) hg (fun s hs'=>by
    rcases List.mem_cons.1 hs' with rfl|h'
    ·exact hc
    ·exact hp s h') hl' h
   exact⟨a1,fun s h'=>a2 s (.tail _ h'),fun s h'=>by
    rcases List.mem_cons.1 h' with rfl|h''
    ·exact a2 _ (.head _)
    ·exact a3 s h''⟩
  rw[List.foldl_cons]
  by_cases hb:befI c f=true
  ·rw[if_pos hb]
   have hcf:0≤crI c f:=by have:=of_decide_eq_true hb;unfold crI;omega
   refine key c hc fun s h=>?_
   rcases List.mem_cons.1 h with rfl|h'
   ·unfold crI;rw[Int.mul_comm];omega
   ·exact tr c f s hc hf (hp s h') hcf (hs s h')
  ·rw[if_neg hb]
   have hcf:0≤crI f c:=by
    have h1:¬(c.2*f.1≤c.1*f.2):=fun h=>hb (decide_eq_true h)
    have e1:=Int.mul_comm c.2 f.1
    have e2:=Int.mul_comm c.1 f.2
    unfold crI;omega
   refine key f hf fun s h=>?_
   rcases List.mem_cons.1 h with rfl|h'
   ·exact hcf
   ·exact hs s h'
theorem lst_all {P:Int×Int→Prop} (tr:∀p q r,P p→P q→P r→0≤crI p q→0≤crI q r→0≤crI p r):∀(l:List (Int×Int)) (f:Int×Int) (seen:List (Int×Int)),P f→(∀s∈seen,P s)→(∀s∈l,P s)→(∀s∈seen,0≤crI s f) →
  P (l.foldl (fun f c=>if befI f c=true then c else f) f)∧(∀s∈seen,0≤crI s (l.foldl (fun f c=>if befI f c=true then c else f) f))∧∀s∈l,0≤crI s (l.foldl (fun f c=>if befI f c=true then c else f) f)
 |[],f,seen,hf,_,_,hs=>⟨hf,hs,fun s h=>nomatch h⟩
 |c::l,f,seen,hf,hp,hl,hs=>by
  have hc:=hl c (.head _)
  have hl':∀s∈l,P s:=fun s h=>hl s (.tail _ h)
  have key:∀g,P g→(∀s∈c::seen,0≤crI s g)→P (l.foldl (fun f c=>if befI f c=true then c else f) g)∧(∀s∈seen,0≤crI s (l.foldl (fun f c=>if befI f c=true then c else f) g))∧∀s∈c::l,0≤crI s (l.foldl (fun f c=>if befI f c=true then c else f) g):=fun g hg h=>by
   obtain⟨a1,a2,a3⟩:=lst_all tr l g (c::seen) hg (fun s hs'=>by
    rcases List.mem_cons.1 hs' with rfl|h'
    ·exact hc
    ·exact hp s h') hl' h
   exact⟨a1,fun s h'=>a2 s (.tail _ h'),fun s h'=>by
    rcases List.mem_cons.1 h' with rfl|h''
    ·exact a2 _ (.head _)
    ·exact a3 s h''⟩
  rw[List.foldl_cons]
  by_cases hb:befI f c=true
  ·rw[if_pos hb]
   have hcf:0≤crI f c:=by have:=of_decide_eq_true hb;unfold crI;omega
   refine key c hc fun s h=>?_
   rcases List.mem_cons.1 h with rfl|h'
   ·unfold crI;rw[Int.mul_comm];omega
   ·exact tr s f c (hp s h') hf hc (hs s h') hcf
  ·rw[if_neg hb]
   have hcf:0≤crI c f:=by
    have h1:¬(f.2*c.1≤f.1*c.2):=fun h=>hb (decide_eq_true h)
    have e1:=Int.mul_comm f.2 c.1
    have e2:=Int.mul_comm f.1 c.2
    unfold crI;omega
   refine key f hf fun s h=>?_
   rcases List.mem_cons.1 h with rfl|h'
   ·exact hcf
   ·exact hs s h'
theorem box_lin {x1 x2 y1 y2 x y p q:Rat} (h1:x1≤x) (h2:x≤x2) (h3:y1≤y) (h4:y≤y2) (a:0≤p*y1-q*x1) (b:0≤p*y2-q*x1) (c:0≤p*y1-q*x2) (d:0≤p*y2-q*x2):q*x≤p*y:=by
 rcases Rat.nonneg_total p with hp|hp
 ·have k:=Rat.mul_le_mul_of_nonneg_left h3 hp
  rcases Rat.nonneg_total q with hq|hq
  ·have m:=Rat.mul_le_mul_of_nonneg_left h2 hq
   grind
  ·have m:=Rat.mul_le_mul_of_nonneg_left h1 hq
   grind
 ·have k:=Rat.mul_le_mul_of_nonneg_left h4 hp
  rcases Rat.nonneg_total q with hq|hq
  ·have m:=Rat.mul_le_mul_of_nonneg_left h2 hq
   grind
  ·have m:=Rat.mul_le_mul_of_nonneg_left h1 hq
   grind
def Quad (j:Int) (x y a b:Rat):Prop:=((j=0∨j=4)∧a=x∧b=y)∨(j=1∧a=y∧b = -x)∨(j=2∧a = -x∧b = -y)∨(j=3∧a = -y∧b=x)
def InArc (A:Int×Int) (x y:Rat):Prop:=∃(j n m:Int) (a b:Rat),Quad j x y a b∧0<a∧0≤b∧A.1≤5400000*j+n∧5400000*j+m≤A.2∧0≤n∧n≤m∧m≤5400000∧GE n a b∧LE m a b
theorem tr0 {a1 a2 b1 b2 c1 c2:Int} (ha:0<a2) (hb:0<b2) (hc:0<c2) (h1:a2*b1≤a1*b2) (h2:b2*c1≤b1*c2):a2*c1≤a1*c2:=by
 have k1:=Int.mul_le_mul_of_nonneg_right h1 (Int.le_of_lt hc)
 have k2:=Int.mul_le_mul_of_nonneg_left h2 (Int.le_of_lt ha)
 have e1:a2*(b2*c1)=a2*c1*b2:=by grind
 have e2:a1*b2*c2=a1*c2*b2:=by grind
 have e3:a2*b1*c2=a2*(b1*c2):=by grind
 exact Int.le_of_mul_le_mul_right (a:=b2) (by omega) hb
theorem box_first {x y:Int×Int} {vx vy:Rat} (bx:(x.1:Rat)≤vx∧vx≤(x.2:Rat)) (by_:(y.1:Rat)≤vy∧vy≤(y.2:Rat)) {f:Int×Int} (hf:∀s∈corners y x,0≤crI f s):(f.2:Rat)*vx≤(f.1:Rat)*vy:=by
 have g:∀a b:Int,(a,b)∈corners y x→(0:Rat)≤(f.1:Rat)*(b:Rat)-(f.2:Rat)*(a:Rat):=fun a b h=>by
  have:=Rat.intCast_nonneg.2 (hf _ h)
  unfold crI at this
  rw[Rat.intCast_sub,Rat.intCast_mul,Rat.intCast_mul] at this
  exact this
 exact box_lin bx.1 bx.2 by_.1 by_.2 (g _ _ (.head _)) (g _ _ (.tail _ (.head _))) (g _ _ (.tail _ (.tail _ (.head _)))) (g _ _ (.tail _ (.tail _ (.tail _ (.head _)))))
theorem box_last {x y:Int×Int} {vx vy:Rat} (bx:(x.1:Rat)≤vx∧vx≤(x.2:Rat)) (by_:(y.1:Rat)≤vy∧vy≤(y.2:Rat)) {f:Int×Int} (hf:∀s∈corners y x,0≤crI s f):(f.1:Rat)*vy≤(f.2:Rat)*vx:=by
 have g:∀a b:Int,(a,b)∈corners y x→(0:Rat)≤-(f.1:Rat)*(b:Rat) - -(f.2:Rat)*(a:Rat):=fun a b h=>by
  have:=Rat.intCast_nonneg.2 (hf _ h)
  unfold crI at this
  rw[Rat.intCast_sub,Rat.intCast_mul,Rat.intCast_mul] at this
  grind
 have:=box_lin bx.1 bx.2 by_.1 by_.2 (g _ _ (.head _)) (g _ _ (.tail _ (.head _))) (g _ _ (.tail _ (.tail _ (.head _)))) (g _ _ (.tail _ (.tail _ (.tail _ (.head _)))))
 grind
theorem hi_ge {lo h e m:Int} (hm:m≤h+e):m≤(if h<lo then h+21600000 else h)+e:=by split<;>omega
theorem up_al (X Y:Int) (b:Bool) (hb:b=if 0<X then exF X Y else exF Y (-X)):up X Y=al X Y+if b=true then 0 else 1:=by
 subst hb
 unfold up al upF
 split<;>omega
theorem al_bd (X Y:Int):0≤al X Y∧al X Y<10800000∧(0<X→al X Y<5400000)∧(¬0<X→5400000≤al X Y):=by
 have h1:=flI_is X Y
 have h2:=flI_is Y (-X)
 have a1:=h1.lo
 have a2:=h1.hi
 have a3:=h2.lo
 have a4:=h2.hi
 unfold al
 split<;>omega
theorem brg_core {x y:Int×Int} {vx vy:Rat} (bx:(x.1:Rat)≤vx∧vx≤(x.2:Rat)) (by_:(y.1:Rat)≤vy∧vy≤(y.2:Rat)) {RX RY:Int×Int→Int} (hc:∀p q,crI p q=RX p*RY q-RY p*RX q) (hP:∀s∈corners y x,0<RY s) {X Y:Rat} (hY:0<Y)
  (hv:∀p:Int×Int,(p.1:Rat)*vy-(p.2:Rat)*vx=(RX p:Rat)*Y-(RY p:Rat)*X) :
  ∃f l,f=fstI (x.1,y.1) (corners y x)∧l=lstI (x.1,y.1) (corners y x)∧0<RY f∧0<RY l∧((0<X∧0<RX f∧∃n m:Int,al (RX f) (RY f)≤n∧m≤up (RX l) (RY l)∧0≤n∧n≤m∧m≤5400000∧GE n X Y∧LE m X Y) ∨
  (X≤0∧RX l≤0∧∃n m:Int,al (RX f) (RY f)≤5400000+n∧5400000+m≤up (RX l) (RY l)∧0≤n∧n≤m∧m≤5400000∧GE n Y (-X)∧LE m Y (-X))):=by
 have tr:∀p q r:Int×Int,0<RY p→0<RY q→0<RY r→0≤crI p q→0≤crI q r→0≤crI p r:=fun p q r h1 h2 h3 k1 k2=>by
  rw[hc] at *
  have:=tr0 (a1:=RX p) (b1:=RX q) (c1:=RX r) h1 h2 h3 (by omega) (by omega)
  omega
 have h0:=hP (x.1,y.1) (.head _)
 obtain⟨f1,_,f3⟩:=fst_all (P:=fun p=>0<RY p) tr (corners y x) (x.1,y.1) [] h0 (fun s hs=>nomatch hs) hP (fun s hs=>nomatch hs)
 obtain⟨l1,_,l3⟩:=lst_all (P:=fun p=>0<RY p) tr (corners y x) (x.1,y.1) [] h0 (fun s hs=>nomatch hs) hP (fun s hs=>nomatch hs)
 have cf:=box_first bx by_ f3
 have cl:=box_last bx by_ l3
 refine⟨_,_,rfl,rfl,f1,l1,?_⟩
 change 0<RY (fstI (x.1,y.1) (corners y x)) at f1
 change 0<RY (lstI (x.1,y.1) (corners y x)) at l1
 change ((fstI (x.1,y.1) (corners y x)).2:Rat)*vx≤((fstI (x.1,y.1) (corners y x)).1:Rat)*vy at cf
 change ((lstI (x.1,y.1) (corners y x)).1:Rat)*vy≤((lstI (x.1,y.1) (corners y x)).2:Rat)*vx at cl
 generalize fstI (x.1,y.1) (corners y x)=f at *
 generalize lstI (x.1,y.1) (corners y x)=l at *
 have e1:=hv f
 have e2:=hv l
 refine half_plane f1 l1 hY ?_ ?_
 ·clear cl e2 bx by_ hv tr hP hc h0 f3 l3
  grind
 ·clear cf e1 bx by_ hv tr hP hc h0 f3 l3
  grind
theorem corners_P {y x:Int×Int} {P:Int×Int→Prop} (h1:P (x.1,y.1)) (h2:P (x.1,y.2)) (h3:P (x.2,y.1)) (h4:P (x.2,y.2)):∀s∈corners y x,P s:=fun s hs=>by
 simp only[corners,List.mem_cons,List.not_mem_nil,or_false] at hs
 rcases hs with rfl|rfl|rfl|rfl<;>assumption
theorem brg_y1 {x y:Int×Int} {vx vy:Rat} (bx:(x.1:Rat)≤vx∧vx≤(x.2:Rat)) (by_:(y.1:Rat)≤vy∧vy≤(y.2:Rat)) (hy:y.1≤y.2) (h:0<y.1):InArc (arcI (fstI (x.1,y.1) (corners y x)) (lstI (x.1,y.1) (corners y x))) vx vy:=by
 have hY:0<vy:=by have:=Rat.intCast_pos.2 h;clear bx;grind
 obtain⟨f,l,hf,hl,f1,l1,H⟩:=brg_core bx by_ (RX:=fun p=>p.1) (RY:=fun p=>p.2) (fun p q=>rfl) (corners_P h (by dsimp only;omega) h (by dsimp only;omega)) (X:=vx) hY (fun p=>rfl)
 rw[←hf,←hl]
 clear hf hl bx by_
 obtain⟨fx,fy⟩:=f
 obtain⟨lx,ly⟩:=l
 dsimp only at f1 l1 H
 have ef:angI (fx,fy)=al fx fy:=by
  unfold angI qd rX rY al
  dsimp only
  by_cases g:0<fx
  ·rw[if_pos (by omega),if_pos (by omega),if_pos (by omega),if_pos g];omega
  ·rw[if_neg (by omega),if_pos f1,if_neg (by omega),if_pos f1,if_neg (by omega),if_pos f1,if_neg g];omega
 have el:angI (lx,ly)=al lx ly:=by
  unfold angI qd rX rY al
  dsimp only
  by_cases g:0<lx
  ·rw[if_pos (by omega),if_pos (by omega),if_pos (by omega),if_pos g];omega
  ·rw[if_neg (by omega),if_pos l1,if_neg (by omega),if_pos l1,if_neg (by omega),if_pos l1,if_neg g];omega
 have ex:exI (lx,ly)=if 0<lx then exF lx ly else exF ly (-lx):=by
  unfold exI rX rY
  dsimp only
  by_cases g:0<lx
  ·rw[if_pos (by omega),if_pos (by omega),if_pos g]
  ·rw[if_neg (by omega),if_pos l1,if_neg (by omega),if_pos l1,if_neg g]
 have eu:=up_al lx ly _ ex
 unfold arcI
 rw[ef,el]
 rcases H with ⟨p1,p2,n,m,q1,q2,q3,q4,q5,q6,q7⟩|⟨p1,p2,n,m,q1,q2,q3,q4,q5,q6,q7⟩
 ·exact⟨0,n,m,vx,vy,Or.inl ⟨Or.inl rfl,rfl,rfl⟩,p1,Rat.le_of_lt hY,by dsimp only;omega,by dsimp only;exact hi_ge (by omega),q3,q4,q5,q6,q7⟩
 ·exact⟨1,n,m,vy,-vx,Or.inr (Or.inl ⟨rfl,rfl,rfl⟩),hY,by clear q6 q7;grind,by dsimp only;omega,by dsimp only;exact hi_ge (by omega),q3,q4,q5,q6,q7⟩
theorem brg_x2 {x y:Int×Int} {vx vy:Rat} (bx:(x.1:Rat)≤vx∧vx≤(x.2:Rat)) (by_:(y.1:Rat)≤vy∧vy≤(y.2:Rat)) (hx:x.1≤x.2) (h:x.2<0):InArc (arcI (fstI (x.1,y.1) (corners y x)) (lstI (x.1,y.1) (corners y x))) vx vy:=by
 have hY:0 < -vx:=by
  have:=Rat.intCast_pos.2 (show 0 < -x.2 by omega)
  rw[Rat.intCast_neg] at this
  clear by_;grind
 obtain⟨f,l,hf,hl,f1,l1,H⟩:=brg_core bx by_ (RX:=fun p=>p.2) (RY:=fun p=>-p.1) (fun p q=>by unfold crI;rw[Int.mul_neg,Int.neg_mul];have:=Int.mul_comm p.2 q.1;omega) (corners_P (by dsimp only;omega) (by dsimp only;omega) (by dsimp only;omega) (by dsimp only;omega)) (X:=vy) hY (fun p=>by rw[Rat.intCast_neg];grind)
 rw[←hf,←hl]
 clear hf hl bx by_
 obtain⟨fx,fy⟩:=f
 obtain⟨lx,ly⟩:=l
 dsimp only at f1 l1 H
 have ef:∀fx fy:Int,0 < -fx→angI (fx,fy)=5400000+al fy (-fx):=fun fx fy f1=>by
  unfold angI qd rX rY al
  dsimp only
  by_cases g:0<fy
  ·rw[if_neg (by omega),if_pos g,if_neg (by omega),if_pos g,if_neg (by omega),if_pos g,if_pos g];omega
  ·rw[if_neg (by omega),if_neg g,if_pos (by omega),if_neg (by omega),if_neg g,if_pos (by omega),if_neg (by omega),if_neg g,if_pos (by omega),if_neg g];omega
 have ex:exI (lx,ly)=if 0<ly then exF ly (-lx) else exF (-lx) (-ly):=by
  unfold exI rX rY
  dsimp only
  by_cases g:0<ly
  ·rw[if_neg (by omega),if_pos g,if_neg (by omega),if_pos g,if_pos g]
  ·rw[if_neg (by omega),if_neg g,if_pos (by omega),if_neg (by omega),if_neg g,if_pos (by omega),if_neg g]
 have eu:=up_al ly (-lx) _ ex
 unfold arcI
 rw[ef _ _ f1,ef _ _ l1]
 rcases H with ⟨p1,p2,n,m,q1,q2,q3,q4,q5,q6,q7⟩|⟨p1,p2,n,m,q1,q2,q3,q4,q5,q6,q7⟩
 ·exact⟨1,n,m,vy,-vx,Or.inr (Or.inl ⟨rfl,rfl,rfl⟩),p1,Rat.le_of_lt hY,by dsimp only;omega,by dsimp only;exact hi_ge (by omega),q3,q4,q5,q6,q7⟩
 ·exact⟨2,n,m,-vx,-vy,Or.inr (Or.inr (Or.inl ⟨rfl,rfl,rfl⟩)),hY,by clear q6 q7;grind,by dsimp only;omega,by dsimp only;exact hi_ge (by omega),q3,q4,q5,q6,q7⟩
theorem brg_y2 {x y:Int×Int} {vx vy:Rat} (bx:(x.1:Rat)≤vx∧vx≤(x.2:Rat)) (by_:(y.1:Rat)≤vy∧vy≤(y.2:Rat)) (hy:y.1≤y.2) (h:y.2<0):InArc (arcI (fstI (x.1,y.1) (corners y x)) (lstI (x.1,y.1) (corners y x))) vx vy:=by
 have hY:0 < -vy:=by
  have:=Rat.intCast_pos.2 (show 0 < -y.2 by omega)
  rw[Rat.intCast_neg] at this
  clear bx;grind
 obtain⟨f,l,hf,hl,f1,l1,H⟩:=brg_core bx by_ (RX:=fun p=>-p.1) (RY:=fun p=>-p.2) (fun p q=>by unfold crI;rw[Int.neg_mul_neg,Int.neg_mul_neg]) (corners_P (by dsimp only;omega) (by dsimp only;omega) (by dsimp only;omega) (by dsimp only;omega)) (X:=-vx) hY (fun p=>by rw[Rat.intCast_neg,Rat.intCast_neg];grind)
 rw[←hf,←hl]
 clear hf hl bx by_
 obtain⟨fx,fy⟩:=f
 obtain⟨lx,ly⟩:=l
 dsimp only at f1 l1 H
 have ef:∀fx fy:Int,0 < -fy→angI (fx,fy)=10800000+al (-fx) (-fy):=fun fx fy f1=>by
  unfold angI qd rX rY al
  dsimp only
  by_cases g:0 < -fx
  ·rw[if_neg (by omega),if_neg (by omega),if_pos (by omega),if_neg (by omega),if_neg (by omega),if_pos (by omega),if_neg (by omega),if_neg (by omega),if_pos (by omega),if_pos g];omega
  ·rw[if_neg (by omega),if_neg (by omega),if_neg (by omega),if_neg (by omega),if_neg (by omega),if_neg (by omega),if_neg (by omega),if_neg (by omega),if_neg (by omega),if_neg g,Int.neg_neg];omega
 have ex:exI (lx,ly)=if 0 < -lx then exF (-lx) (-ly) else exF (-ly) (- -lx):=by
  unfold exI rX rY
  dsimp only
  by_cases g:0 < -lx
  ·rw[if_neg (by omega),if_neg (by omega),if_pos (by omega),if_neg (by omega),if_neg (by omega),if_pos (by omega),if_pos g]
  ·rw[if_neg (by omega),if_neg (by omega),if_neg (by omega),if_neg (by omega),if_neg (by omega),if_neg (by omega),if_neg g,Int.neg_neg]
 have eu:=up_al (-lx) (-ly) _ ex
 unfold arcI
 rw[ef _ _ f1,ef _ _ l1]
 rcases H with ⟨p1,p2,n,m,q1,q2,q3,q4,q5,q6,q7⟩|⟨p1,p2,n,m,q1,q2,q3,q4,q5,q6,q7⟩
 ·exact⟨2,n,m,-vx,-vy,Or.inr (Or.inr (Or.inl ⟨rfl,rfl,rfl⟩)),p1,Rat.le_of_lt hY,by dsimp only;omega,by dsimp only;exact hi_ge (by omega),q3,q4,q5,q6,q7⟩
 ·refine⟨3,n,m,-vy,vx,Or.inr (Or.inr (Or.inr ⟨rfl,rfl,rfl⟩)),hY,by clear q6 q7;grind,by dsimp only;omega,by dsimp only;exact hi_ge (by omega),q3,q4,q5,?_,?_⟩
  ·rwa [Rat.neg_neg] at q6
  ·rwa [Rat.neg_neg] at q7
theorem brg_x1 {x y:Int×Int} {vx vy:Rat} (bx:(x.1:Rat)≤vx∧vx≤(x.2:Rat)) (by_:(y.1:Rat)≤vy∧vy≤(y.2:Rat)) (hx:x.1≤x.2) (h:0<x.1):InArc (arcI (fstI (x.1,y.1) (corners y x)) (lstI (x.1,y.1) (corners y x))) vx vy:=by
 have hY:0<vx:=by have:=Rat.intCast_pos.2 h;clear by_;grind
 obtain⟨f,l,hf,hl,f1,l1,H⟩:=brg_core bx by_ (RX:=fun p=>-p.2) (RY:=fun p=>p.1) (fun p q=>by unfold crI;rw[Int.mul_neg,Int.neg_mul];have:=Int.mul_comm p.2 q.1;omega) (corners_P (by dsimp only;omega) (by dsimp only;omega) (by dsimp only;omega) (by dsimp only;omega)) (X:=-vy) hY (fun p=>by rw[Rat.intCast_neg];grind)
 rw[←hf,←hl]
 clear hf hl bx by_
 obtain⟨fx,fy⟩:=f
 obtain⟨lx,ly⟩:=l
 dsimp only at f1 l1 H
 have ef:∀fx fy:Int,0<fx→angI (fx,fy)=if 0 < -fy then 16200000+al (-fy) fx else 16200000+al (-fy) fx-21600000:=fun fx fy f1=>by
  unfold angI qd rX rY al
  dsimp only
  by_cases g:0 < -fy
  ·rw[if_neg (by omega),if_neg (by omega),if_neg (by omega),if_neg (by omega),if_neg (by omega),if_neg (by omega),if_neg (by omega),if_neg (by omega),if_neg (by omega),if_pos g,if_pos g];omega
  ·rw[if_pos (by omega),if_pos (by omega),if_pos (by omega),if_neg g,if_neg g,Int.neg_neg];omega
 have ex:exI (lx,ly)=if 0 < -ly then exF (-ly) lx else exF lx (- -ly):=by
  unfold exI rX rY
  dsimp only
  by_cases g:0 < -ly
  ·rw[if_neg (by omega),if_neg (by omega),if_neg (by omega),if_neg (by omega),if_neg (by omega),if_neg (by omega),if_pos g]
  ·rw[if_pos (by omega),if_pos (by omega),if_neg g,Int.neg_neg]
 have eu:=up_al (-ly) lx _ ex
 have bf:=al_bd (-fy) fx
 have bl:=al_bd (-ly) lx
 unfold arcI
 rw[ef _ _ f1,ef _ _ l1]
 generalize (if exI (lx,ly)=true then (0:Int) else 1)=e at *
 rcases H with ⟨p1,p2,n,m,q1,q2,q3,q4,q5,q6,q7⟩|⟨p1,p2,n,m,q1,q2,q3,q4,q5,q6,q7⟩
 ·rw[if_pos p2]
  refine⟨3,n,m,-vy,vx,Or.inr (Or.inr (Or.inr ⟨rfl,rfl,rfl⟩)),p1,Rat.le_of_lt hY,by dsimp only;omega,?_,q3,q4,q5,q6,q7⟩
  dsimp only
  by_cases g:0 < -ly
  ·rw[if_pos g];exact hi_ge (by omega)
  ·rw[if_neg g]
   have:=bl.2.2.2 g
   have:=bf.2.2.1 p2
   rw[if_pos (by omega)];omega
 ·rw[if_neg (show ¬0 < -ly by omega)]
  rw[Rat.neg_neg] at q6 q7
  by_cases g:0 < -fy
  ·rw[if_pos g]
   refine⟨4,n,m,vx,vy,Or.inl ⟨Or.inr rfl,rfl,rfl⟩,hY,by clear q6 q7;grind,by dsimp only;omega,?_,q3,q4,q5,q6,q7⟩
   have:=bl.2.2.2 (by omega)
   have:=bf.2.2.1 g
   dsimp only
   rw[if_pos (by omega)];omega
  ·rw[if_neg g]
   refine⟨0,n,m,vx,vy,Or.inl ⟨Or.inl rfl,rfl,rfl⟩,hY,by clear q6 q7;grind,by dsimp only;omega,?_,q3,q4,q5,q6,q7⟩
   dsimp only
   exact hi_ge (by omega)
theorem brg_in {x y:Int×Int} {vx vy:Rat} (bx:(x.1:Rat)≤vx∧vx≤(x.2:Rat)) (by_:(y.1:Rat)≤vy∧vy≤(y.2:Rat)) (hx:x.1≤x.2) (hy:y.1≤y.2):(brgI y x=(0,21600000)∧x.1≤0∧0≤x.2∧y.1≤0∧0≤y.2)∨InArc (brgI y x) vx vy:=by
 unfold brgI
 by_cases h:x.1≤0∧0≤x.2∧y.1≤0∧0≤y.2
 ·rw[if_pos h];exact Or.inl ⟨rfl,h⟩
 ·rw[if_neg h]
  right
  by_cases h1:0<x.1
  ·exact brg_x1 bx by_ hx h1
  by_cases h2:x.2<0
  ·exact brg_x2 bx by_ hx h2
  by_cases h3:0<y.1
  ·exact brg_y1 bx by_ hy h3
  ·exact brg_y2 bx by_ hy (by omega)
theorem angI_bd (p:Int×Int):0≤angI p∧angI p<21600000:=by
 have h:=flI_is (rX p.1 p.2) (rY p.1 p.2)
 have h1:=h.lo
 have h2:=h.hi
 unfold angI qd
 split
 ·omega
 split
 ·omega
 split<;>omega
theorem brgI_bd (y x:Int×Int):0≤(brgI y x).1∧(brgI y x).1≤(brgI y x).2∧(brgI y x).1≤21600000∧(brgI y x).2≤43200000:=by
 unfold brgI arcI
 have h1:=angI_bd (fstI (x.1,y.1) (corners y x))
 have h2:=angI_bd (lstI (x.1,y.1) (corners y x))
 split
 ·dsimp only;omega
 ·dsimp only
  split<;>split<;>omega
theorem encl_any {lo hi n:Int} (h0:lo≤n) (h1:n≤hi):(encl lo hi).1≤(bnd n).1∧(bnd n).2≤(encl lo hi).2:=by
 obtain⟨k,hk⟩:∃k,-5400000≤lo+21600000*k∧lo+21600000*k<16200000:=⟨-((lo+5400000)/21600000),by omega⟩
 rw[←encl_turn lo hi k,←bnd_turn n k]
 generalize hl:lo+21600000*k=l at *
 generalize hh:hi+21600000*k=h at *
 generalize hn:n+21600000*k=m at *
 have g0:l≤m:=by omega
 have g1:m≤h:=by omega
 clear hl hh hn h0 h1
 have bb:=bnd_bd m
 unfold encl
 dsimp only
 have mt:∀x:Int,l≤x→x≤h→x-l<21600000→meetsI l h x=true:=fun x a b c=>by
  unfold meetsI
  have:turnI (x-l)=x-l:=Int.emod_eq_of_lt (by omega) (by omega)
  rw[this]
  exact decide_eq_true (by omega)
 have mt2:27000000≤h→5400000<l→meetsI l h 5400000=true:=fun b c=>by
  unfold meetsI
  have:turnI (5400000-l)=27000000-l:=by unfold turnI;omega
  rw[this]
  exact decide_eq_true (by omega)
 constructor
 ·split
  ·omega
  ·rename_i hm
   have hl3:h<16200000:=by
    refine Int.not_le.1 fun hle=>hm ?_
    by_cases e:l = -5400000
    ·unfold meetsI
     have:turnI (16200000-l)=0:=by unfold turnI;omega
     rw[this]
     exact decide_eq_true (by omega)
    ·exact mt 16200000 (by omega) hle (by omega)
   by_cases hq:m≤5400000
   ·have:=bnd_mono hk.1 g0 hq
    omega
   ·have:=bnd_dec (n:=m) (m:=h) (by omega) g1 (by omega)
    omega
 ·split
  ·omega
  ·rename_i hm
   by_cases hq:l≤5400000
   ·have hh:h<5400000:=Int.not_le.1 fun hle=>hm (mt 5400000 hq hle (by omega))
    have:=bnd_mono (n:=m) (m:=h) (by omega) g1 (by omega)
    omega
   ·have hh:h<27000000:=Int.not_le.1 fun hle=>hm (mt2 hle (by omega))
    by_cases hq2:m≤16200000
    ·have:=bnd_dec (n:=l) (m:=m) (by omega) g0 hq2
     omega
    ·have:=bnd_inc2 (n:=m) (m:=h) (by omega) g1 (by omega)
     omega
theorem encl_ord {lo hi:Int} (h:lo≤hi) : -1073741824≤(encl lo hi).1∧(encl lo hi).1≤(encl lo hi).2∧(encl lo hi).2≤1073741824:=by
 have a:=encl_any (lo:=lo) (hi:=hi) (n:=lo) (by omega) h
 have b:=bnd_bd lo
 have c:=encl_bd lo hi
 omega
theorem cosE_ord {lo hi:Int} (h:lo≤hi) : -1073741824≤(cosE lo hi).1∧(cosE lo hi).1≤(cosE lo hi).2∧(cosE lo hi).2≤1073741824:=encl_ord (by omega)
abbrev dB:Rat:=1/((2^126:Nat):Rat)
theorem Enc.of2 {lo hi:Int} {x d e:Rat} (h:Holds lo hi x d) (hle:lo≤hi) (he0:0≤e) (he:d≤oR*e):Enc (lo,hi) x e:=by
 obtain⟨h1,h2⟩:=h
 have hleR:(lo:Rat)≤(hi:Rat):=Rat.intCast_le_intCast.2 hle
 have inv:∀q:Rat,oR*(q/oR)=q:=fun q=>by rw[Rat.mul_comm];exact Rat.div_mul_cancel (by decide +kernel)
 rcases Rat.le_total (a:=oR*x) (b:=(lo:Rat)) with g|g
 ·refine⟨(lo:Rat)/oR,by rw[inv];exact Rat.le_refl,by rw[inv];exact hleR,?_⟩
  have e:=inv (lo:Rat)
  generalize (lo:Rat)/oR=y at *
  exact⟨by grind,by grind⟩
 rcases Rat.le_total (a:=oR*x) (b:=(hi:Rat)) with g'|g'
 ·exact⟨x,g,g',by exact⟨by grind,by grind⟩⟩
 ·refine⟨(hi:Rat)/oR,by rw[inv];exact hleR,by rw[inv];exact Rat.le_refl,?_⟩
  have e:=inv (hi:Rat)
  generalize (hi:Rat)/oR=y at *
  exact⟨by grind,by grind⟩
abbrev dB':Rat:=1/((2^130:Nat):Rat)
theorem sin_encA {lo hi n:Int} (h0:lo≤n) (h1:n≤hi) (hb : -100000000≤n∧n≤100000000):Enc (encl lo hi) (S n) dB:=by
 have hh:=bnd_holds (n:=n) (by omega) (by omega)
 have he:=Enc.of2 (e:=dB') hh (bnd_bd _).2.1 (by decide +kernel) (by decide +kernel)
 obtain⟨e1,e2⟩:=encl_any h0 h1
 exact(he.wide (q:=encl lo hi) e1 e2).mono (by decide +kernel)
theorem cos_encA {lo hi n:Int} (h0:lo≤n) (h1:n≤hi) (hb : -100000000≤n∧n≤100000000):Enc (cosE lo hi) (C n) dB:=by
 have hh:=bnd_holds (n:=n+5400000) (by omega) (by omega)
 have he:=Enc.of2 (e:=dB') hh (bnd_bd _).2.1 (by decide +kernel) (by decide +kernel)
 obtain⟨e1,e2⟩:=encl_any (lo:=lo+5400000) (hi:=hi+5400000) (n:=n+5400000) (by omega) (by omega)
 have h3:=S_co (-n)
 rw[C_neg,show 5400000 - -n=n+5400000 by omega] at h3
 exact((he.wide (q:=cosE lo hi) e1 e2).near h3.symm).mono (by decide +kernel)
theorem Enc.between {p:Int×Int} {x y z d e:Rat} (hx:Enc p x d) (hy:Enc p y d) (he:0≤e) (hd:0≤d) (h1:x-e≤z) (h2:z≤y+e):Enc p z (d+e):=by
 obtain⟨x',a1,a2,n1,n2⟩:=hx
 obtain⟨y',b1,b2,k1,k2⟩:=hy
 have ho:=oR_pos
 rcases Rat.le_total (a:=z) (b:=x') with g|g
 ·exact⟨x',a1,a2,by grind,by grind⟩
 rcases Rat.le_total (a:=y') (b:=z) with g'|g'
 ·exact⟨y',b1,b2,by grind,by grind⟩
 ·have p1:=Rat.mul_le_mul_of_nonneg_left g (Rat.le_of_lt ho)
  have p2:=Rat.mul_le_mul_of_nonneg_left g' (Rat.le_of_lt ho)
  exact⟨z,Rat.le_trans a1 p1,Rat.le_trans p2 b2,by grind,by grind⟩
/-! ### a point of the first quarter -/
theorem le_of_sq {x y:Rat} (hy:0≤y) (h:x*x≤y*y):x≤y:=by
 refine Rat.not_lt.1 fun hlt=>?_
 have h1:=Rat.mul_le_mul_of_nonneg_left (Rat.le_of_lt hlt) hy
 have h2:=Rat.mul_lt_mul_of_pos_right hlt (show 0<x by grind)
 grind
theorem quarter_pt {s c a b g f e:Rat} (u:s*s+c*c=1) (he:0≤e) (he1:e≤1) (hs : -e≤s∧s≤1) (hc : -e≤c∧c≤1) (ha:0≤a) (hb:0≤b) (hg:0≤g) (hf:0≤f) (hr1:f*f≤a*a+b*b) (hr2:a*a+b*b≤g*g) (h:s*a-c*b≤e*(a+b)) :
  a≤c*g+8*e*g∧s*f≤b+2*e*g:=by
 have aa:=sq_nn a
 have bb:=sq_nn b
 have hag:a≤g:=le_of_sq hg (by grind)
 have hbg:b≤g:=le_of_sq hg (by grind)
 have ht1:c*a+s*b≤g:=le_of_sq hg (by
  have:=sq_nn (s*a-c*b)
  have e1:(c*a+s*b)*(c*a+s*b)=(s*s+c*c)*(a*a+b*b)-(s*a-c*b)*(s*a-c*b):=by grind
  rw[u] at e1
  grind)
 have ht2 : -(c*a+s*b)≤g:=le_of_sq hg (by
  have:=sq_nn (s*a-c*b)
  have e1 : -(c*a+s*b) * -(c*a+s*b)=(s*s+c*c)*(a*a+b*b)-(s*a-c*b)*(s*a-c*b):=by grind
  rw[u] at e1
  grind)
 have heg:=Rat.mul_nonneg he hg
 have hea:=Rat.mul_le_mul_of_nonneg_left hag he
 have heb:=Rat.mul_le_mul_of_nonneg_left hbg he
 have h':s*a-c*b≤2*(e*g):=by grind
 constructor
 ·have e1:a=c*(c*a+s*b)+s*(s*a-c*b):=by
   have:c*(c*a+s*b)+s*(s*a-c*b)=(s*s+c*c)*a:=by grind
   rw[this,u];grind
  -- the first term
  have k1:c*(c*a+s*b)≤c*g+2*(e*g):=by
   rcases Rat.nonneg_total c with hc0|hc0
   ·have:=Rat.mul_le_mul_of_nonneg_left ht1 hc0
    grind
   ·have m1:=Rat.mul_le_mul_of_nonneg_left (show g-(c*a+s*b)≤2*g by grind) hc0
    have m2:=Rat.mul_le_mul_of_nonneg_right (show -c≤e by grind) (show 0≤2*g by grind)
    grind
  have k2:s*(s*a-c*b)≤4*(e*g):=by
   rcases Rat.nonneg_total s with hs0|hs0
   ·have m1:=Rat.mul_le_mul_of_nonneg_left h' hs0
    have m2:=Rat.mul_le_mul_of_nonneg_right hs.2 (show 0≤2*(e*g) by grind)
    grind
   ·-- s is next to nothing
    have m0:c*b-s*a≤2*g:=by
     have p1:=Rat.mul_le_mul_of_nonneg_right hc.2 hb
     have p2:=Rat.mul_le_mul_of_nonneg_right (show -s≤1 by grind) ha
     grind
    have m1:=Rat.mul_le_mul_of_nonneg_left m0 hs0
    have m2:=Rat.mul_le_mul_of_nonneg_right (show -s≤e by grind) (show 0≤2*g by grind)
    grind
  grind
 ·rcases Rat.nonneg_total s with hs0|hs0
  ·have hsa:=Rat.mul_nonneg hs0 ha
   have hy:0≤b+2*e*g:=by grind
   refine le_of_sq hy ?_
   -- (s a)^2 <= (c b+2 e g)^2
   have q1:s*a*(s*a)≤(c*b+2*(e*g))*(c*b+2*(e*g)):=sq_le hsa (by grind)
   have q2:=Rat.mul_le_mul_of_nonneg_left hr1 (sq_nn s)
   have q3:=Rat.mul_le_mul_of_nonneg_right hc.2 (show 0≤b*(e*g) from Rat.mul_nonneg hb heg)
   have e2:s*s*(b*b)+c*c*(b*b)=b*b:=by
    have:s*s*(b*b)+c*c*(b*b)=(s*s+c*c)*(b*b):=by grind
    rw[this,u];grind
   grind
  ·have:=Rat.mul_nonneg hs0 hf
   grind
/-! ### turned by quarters -/
theorem C_turn (n:Int):Near (C (n+21600000)) (C n) d144:=by
 have h1:=C_half (n+10800000)
 rw[show n+10800000+10800000=n+21600000 by omega] at h1
 have h2:=(C_half n).neg
 have e : - -(C n)=C n:=Rat.neg_neg _
 rw[e] at h2
 exact(h1.trans h2).mono e144
theorem C_quart (n:Int):Near (C (n+5400000)) (-(S n)) d148:=by
 have:=C_co (-n)
 rwa [S_neg,show 5400000 - -n=n+5400000 by omega] at this
theorem S_quart (n:Int):Near (S (n+5400000)) (C n) d148:=by
 have:=S_co (-n)
 rwa [C_neg,show 5400000 - -n=n+5400000 by omega] at this
abbrev d142:Rat:=1/((2^142:Nat):Rat)
theorem quad_near {j:Int} {n:Int} {x y a b:Rat} (h:Quad j x y a b):∃c s:Rat,Near (C (5400000*j+n)) c d142∧Near (S (5400000*j+n)) s d142∧Quad j c s (C n) (S n):=by
 have e1:d148≤d142:=by decide +kernel
 have e2:d146≤d142:=by decide +kernel
 have e3:d146+d148≤d142:=by decide +kernel
 have e4:d144≤d142:=by decide +kernel
 have e0:(0:Rat)≤d142:=by decide +kernel
 have r0:∀x:Rat,Near x x d142:=fun x=>⟨by generalize d142=d at *;grind,by generalize d142=d at *;grind⟩
 rcases h with ⟨rfl|rfl,_⟩|⟨rfl,_⟩|⟨rfl,_⟩|⟨rfl,_⟩
 ·rw[show 5400000*0+n=n by omega]
  exact⟨C n,S n,r0 _,r0 _,Or.inl ⟨Or.inl rfl,rfl,rfl⟩⟩
 ·rw[show 5400000*4+n=n+21600000 by omega]
  exact⟨C n,S n,(C_turn n).mono e4,(S_turn n).mono e4,Or.inl ⟨Or.inr rfl,rfl,rfl⟩⟩
 ·rw[show 5400000*1+n=n+5400000 by omega]
  exact⟨-(S n),C n,(C_quart n).mono e1,(S_quart n).mono e1,Or.inr (Or.inl ⟨rfl,rfl,(Rat.neg_neg _).symm⟩)⟩
 ·rw[show 5400000*2+n=n+10800000 by omega]
  exact⟨-(C n),-(S n),(C_half n).mono e2,(S_half n).mono e2,Or.inr (Or.inr (Or.inl ⟨rfl,(Rat.neg_neg _).symm,(Rat.neg_neg _).symm⟩))⟩
 ·rw[show 5400000*3+n=n+5400000+10800000 by omega]
  have h1:=((C_half (n+5400000)).trans (C_quart n).neg).mono e3
  have h2:=((S_half (n+5400000)).trans (S_quart n).neg).mono e3
  rw[Rat.neg_neg] at h1
  exact⟨S n,-(C n),h1,h2,Or.inr (Or.inr (Or.inr ⟨rfl,(Rat.neg_neg _).symm,rfl⟩))⟩
abbrev dE:Rat:=1/((2^124:Nat):Rat)
theorem div_le {a b g:Rat} (hg:0<g) (h:a≤b*g):a/g≤b:=Rat.le_of_mul_le_mul_right (c:=g) (by rw[Rat.div_mul_cancel (by grind)];exact h) hg
theorem le_div {a b g:Rat} (hg:0<g) (h:b*g≤a):b≤a/g:=Rat.le_of_mul_le_mul_right (c:=g) (by rw[Rat.div_mul_cancel (by grind)];exact h) hg
theorem quarter_btw {n m:Int} {a b g f t:Rat} (hn0:0≤n) (hn:n≤5400000) (hm0:0≤m) (hm:m≤5400000) (ha:0<a) (hb:0≤b) (hg:0<g) (hf:0≤f) (hr1:f*f≤a*a+b*b) (hr2:a*a+b*b≤g*g) (ht:g-f≤t*g) (ht0:0≤t) (h1:GE n a b) (h2:LE m a b) :
  (C m-(8*e6+t)≤a/g∧a/g≤C n+(8*e6+t))∧(S n-(8*e6+t)≤b/g∧b/g≤S m+(8*e6+t)):=by
 obtain⟨s1,c1⟩:=SC_q hn0 hn
 obtain⟨s2,c2⟩:=SC_q hm0 hm
 have un:S n*S n+C n*C n=1:=by have:=unit n;grind
 have um:C m*C m+S m*S m=1:=unit m
 have he1:e6≤1:=by decide +kernel
 obtain⟨p1,p2⟩:=quarter_pt un e6_nn he1 ⟨s1,(S_abs n).2⟩ ⟨c1,(C_abs n).2⟩ (Rat.le_of_lt ha) hb (Rat.le_of_lt hg) hf hr1 hr2 h1
 obtain⟨q1,q2⟩:=quarter_pt (s:=C m) (c:=S m) (a:=b) (b:=a) um e6_nn he1 ⟨c2,(C_abs m).2⟩ ⟨s2,(S_abs m).2⟩ hb (Rat.le_of_lt ha) (Rat.le_of_lt hg) hf (by grind) (by grind) (by unfold LE at h2;grind)
 have eg:=Rat.mul_nonneg e6_nn (Rat.le_of_lt hg)
 have tg:=Rat.mul_nonneg ht0 (Rat.le_of_lt hg)
 have x1:=Rat.mul_le_mul_of_nonneg_right (C_abs m).2 (show 0≤g-f+(t*g-(g-f)) by grind)
 have x2:=Rat.mul_le_mul_of_nonneg_right (S_abs n).2 (show 0≤g-f+(t*g-(g-f)) by grind)
 -- C m g <= C m f+t g
 have y1:C m*g≤C m*f+t*g:=by
  rcases Rat.nonneg_total (C m) with h|h
  ·have a1:=Rat.mul_le_mul_of_nonneg_left ht h
   have a2:=Rat.mul_le_mul_of_nonneg_right (C_abs m).2 tg
   grind
  ·have hgf:f≤g:=le_of_sq (Rat.le_of_lt hg) (Rat.le_trans hr1 hr2)
   have a1:=Rat.mul_nonneg h (show 0≤g-f by grind)
   grind
 have y2:S n*g≤S n*f+t*g:=by
  rcases Rat.nonneg_total (S n) with h|h
  ·have a1:=Rat.mul_le_mul_of_nonneg_left ht h
   have a2:=Rat.mul_le_mul_of_nonneg_right (S_abs n).2 tg
   grind
  ·have hgf:f≤g:=le_of_sq (Rat.le_of_lt hg) (Rat.le_trans hr1 hr2)
   have a1:=Rat.mul_nonneg h (show 0≤g-f by grind)
   grind
 clear x1 x2
 generalize e6=e at *
 generalize C n=cn at *
 generalize S n=sn at *
 generalize C m=cm at *
 generalize S m=sm at *
 refine⟨⟨le_div hg ?_,div_le hg ?_⟩,⟨le_div hg ?_,div_le hg ?_⟩⟩
 ·grind
 ·grind
 ·grind
 ·grind
theorem neg_div' (a g:Rat) : -a/g = -(a/g):=by rw[Rat.div_def,Rat.div_def];grind
theorem arc_enc {A:Int×Int} {x y g f:Rat} (hA0:0≤A.1) (hA1:A.2≤43200000) (h:InArc A x y) (hg:0<g) (hf:0≤f) (hr1:f*f≤x*x+y*y) (hr2:x*x+y*y≤g*g) (ht:g-f≤d142*g) :
  Enc (cosE A.1 A.2) (x/g) dE∧Enc (encl A.1 A.2) (y/g) dE:=by
 obtain⟨j,n,m,a,b,hq,ha,hb,h1,h2,h3,h4,h5,h6,h7⟩:=h
 have hr:a*a+b*b=x*x+y*y:=by
  rcases hq with ⟨_,rfl,rfl⟩|⟨_,rfl,rfl⟩|⟨_,rfl,rfl⟩|⟨_,rfl,rfl⟩<;>grind
 rw[←hr] at hr1 hr2
 obtain⟨⟨q1,q2⟩,⟨q3,q4⟩⟩:=quarter_btw h3 (by omega) (by omega) h5 ha hb hg hf hr1 hr2 ht (by decide +kernel) h6 h7
 obtain⟨cn,sn,n1,n2,nq⟩:=quad_near (n:=n) hq
 obtain⟨cm,sm,m1,m2,mq⟩:=quad_near (n:=m) hq
 have j0:0≤j∧j≤4:=by rcases hq with ⟨rfl|rfl,_⟩|⟨rfl,_⟩|⟨rfl,_⟩|⟨rfl,_⟩<;>omega
 have ccn:=((cos_encA (lo:=A.1) (hi:=A.2) (n:=5400000*j+n) (by omega) (by omega) (by omega)).near n1.symm)
 have ccm:=((cos_encA (lo:=A.1) (hi:=A.2) (n:=5400000*j+m) (by omega) (by omega) (by omega)).near m1.symm)
 have ssn:=((sin_encA (lo:=A.1) (hi:=A.2) (n:=5400000*j+n) (by omega) (by omega) (by omega)).near n2.symm)
 have ssm:=((sin_encA (lo:=A.1) (hi:=A.2) (n:=5400000*j+m) (by omega) (by omega) (by omega)).near m2.symm)
 have hd:d142+dB+(8*e6+d142)≤dE:=by decide +kernel
 have hd0:(0:Rat)≤d142+dB:=by decide +kernel
 have he0:(0:Rat)≤8*e6+d142:=by decide +kernel
 clear hr hr1 hr2 ht h6 h7 n1 n2 m1 m2
 -- quarter by quarter
 rcases hq with ⟨hj,ea,eb⟩|⟨hj,ea,eb⟩|⟨hj,ea,eb⟩|⟨hj,ea,eb⟩
 ·obtain⟨c1,s1⟩:cn=C n∧sn=S n:=by
   rcases nq with ⟨_,a1,a2⟩|⟨a0,_⟩|⟨a0,_⟩|⟨a0,_⟩
   ·exact⟨a1.symm,a2.symm⟩
   all_goals omega
  obtain⟨c2,s2⟩:cm=C m∧sm=S m:=by
   rcases mq with ⟨_,a1,a2⟩|⟨a0,_⟩|⟨a0,_⟩|⟨a0,_⟩
   ·exact⟨a1.symm,a2.symm⟩
   all_goals omega
  rw[ea] at q1 q2
  rw[eb] at q3 q4
  rw[c1] at ccn;rw[c2] at ccm;rw[s1] at ssn;rw[s2] at ssm
  exact⟨(ccm.between ccn he0 hd0 q1 q2).mono hd,(ssn.between ssm he0 hd0 q3 q4).mono hd⟩
 ·obtain⟨c1,s1⟩:cn = -(S n)∧sn=C n:=by
   rcases nq with ⟨a0,_⟩|⟨_,a1,a2⟩|⟨a0,_⟩|⟨a0,_⟩
   ·omega
   ·exact⟨by rw[a2,Rat.neg_neg],a1.symm⟩
   all_goals omega
  obtain⟨c2,s2⟩:cm = -(S m)∧sm=C m:=by
   rcases mq with ⟨a0,_⟩|⟨_,a1,a2⟩|⟨a0,_⟩|⟨a0,_⟩
   ·omega
   ·exact⟨by rw[a2,Rat.neg_neg],a1.symm⟩
   all_goals omega
  rw[ea] at q1 q2
  rw[eb,neg_div'] at q3 q4
  rw[c1] at ccn;rw[c2] at ccm;rw[s1] at ssn;rw[s2] at ssm
  generalize x/g=X at *
  generalize y/g=Y at *
  generalize (8*e6+d142)=e at *
  exact⟨(ccm.between ccn he0 hd0 (by grind) (by grind)).mono hd,(ssm.between ssn he0 hd0 q1 q2).mono hd⟩
 ·obtain⟨c1,s1⟩:cn = -(C n)∧sn = -(S n):=by
   rcases nq with ⟨a0,_⟩|⟨a0,_⟩|⟨_,a1,a2⟩|⟨a0,_⟩
   ·omega
   ·omega
   ·exact⟨by rw[a1,Rat.neg_neg],by rw[a2,Rat.neg_neg]⟩
   ·omega
  obtain⟨c2,s2⟩:cm = -(C m)∧sm = -(S m):=by
   rcases mq with ⟨a0,_⟩|⟨a0,_⟩|⟨_,a1,a2⟩|⟨a0,_⟩
   ·omega
   ·omega
   ·exact⟨by rw[a1,Rat.neg_neg],by rw[a2,Rat.neg_neg]⟩
   ·omega
  rw[ea,neg_div'] at q1 q2
  rw[eb,neg_div'] at q3 q4
  rw[c1] at ccn;rw[c2] at ccm;rw[s1] at ssn;rw[s2] at ssm
  generalize x/g=X at *
  generalize y/g=Y at *
  generalize (8*e6+d142)=e at *
  exact⟨(ccn.between ccm he0 hd0 (by grind) (by grind)).mono hd,(ssm.between ssn he0 hd0 (by grind) (by grind)).mono hd⟩
 ·obtain⟨c1,s1⟩:cn=S n∧sn = -(C n):=by
   rcases nq with ⟨a0,_⟩|⟨a0,_⟩|⟨a0,_⟩|⟨_,a1,a2⟩
   ·omega
   ·omega
   ·omega
   ·exact⟨a2.symm,by rw[a1,Rat.neg_neg]⟩
  obtain⟨c2,s2⟩:cm=S m∧sm = -(C m):=by
   rcases mq with ⟨a0,_⟩|⟨a0,_⟩|⟨a0,_⟩|⟨_,a1,a2⟩
   ·omega
   ·omega
   ·omega
   ·exact⟨a2.symm,by rw[a1,Rat.neg_neg]⟩
  rw[ea,neg_div'] at q1 q2
  rw[eb] at q3 q4
  rw[c1] at ccn;rw[c2] at ccm;rw[s1] at ssn;rw[s2] at ssm
  generalize x/g=X at *
  generalize y/g=Y at *
  generalize (8*e6+d142)=e at *
  exact⟨(ccn.between ccm he0 hd0 (by grind) (by grind)).mono hd,(ssn.between ssm he0 hd0 (by grind) (by grind)).mono hd⟩
end Go.Proofs.YtjmdeplmenbmmaaGreatDoor.TT
