/- Lemmas of the proof: Sem, Rw. -/
import Derived.Test.YtihbaieiempjeaaGreatC4
import Derived.Test.YtihbaieiempjeaaGreatC0
import Derived.Test.YtihbaieiempjeaaGreatC1
import Derived.Deep.DeepCutAuto
namespace Go.Proofs.YtihbaieiempjeaaGreat
open Go.RowKit
def gval (B vs:List Int) (g:Gt):Int :=
 if g.k=1 then B.getD g.a.toNat 0
 else if g.k=2 then g.a
 else if g.k=3 then (vs.getD g.a.toNat 0 + vs.getD g.b.toNat 0) % 2
 else if g.k=4 then vs.getD g.a.toNat 0 * vs.getD g.b.toNat 0
 else 1 - vs.getD g.a.toNat 0
def ev (B:List Int) (gs:List Gt):List Int:=gs.foldl (fun vs g=>vs ++ [gval B vs g]) []
theorem ev_snoc (B:List Int) (gs:List Gt) (g:Gt):ev B (gs ++ [g])=ev B gs ++ [gval B (ev B gs) g]:=by simp [ev]
theorem ev_length (B:List Int) (gs:List Gt):(ev B gs).length=gs.length:=by
 have:∀ (gs:List Gt) (vs:List Int),(gs.foldl (fun vs g=>vs ++ [gval B vs g]) vs).length=vs.length + gs.length:=fun gs=>by
  induction gs with
  | nil=>intro vs; rfl
  | cons g gs ih=>intro vs; rw [List.foldl_cons,ih]; simp; omega
 have h:=this gs []
 simpa [ev] using h
def V (B:List Int) (gs:List Gt) (w:Int):Int:=(ev B gs).getD w.toNat 0
theorem V_snoc {B:List Int} {gs:List Gt} {w:Int} (g:Gt) (hw:wireB gs.length w=true):V B (gs ++ [g]) w=V B gs w:=by
 have h:=wireB_iff.1 hw
 have hl:=ev_length B gs
 unfold V
 rw [ev_snoc,List.getD_eq_getElem?_getD,List.getElem?_append_left (by omega),←List.getD_eq_getElem?_getD]
theorem V_app {B:List Int} {gs:List Gt} {w:Int} (hw:wireB gs.length w=true):∀ l:List Gt,V B (gs ++ l) w=V B gs w:=by
 intro l
 induction l generalizing gs with
 | nil=>rw [List.append_nil]
 | cons g l ih =>
  rw [show gs ++ g :: l=(gs ++ [g]) ++ l by simp,ih (wireB_mono hw (by simp)),V_snoc g hw]
theorem V_new {B:List Int} {gs:List Gt} (g:Gt) {n:Nat} (hn:gs.length=n):V B (gs ++ [g]) (n:Int)=gval B (ev B gs) g:=by
 subst hn
 have hl:=ev_length B gs
 unfold V
 rw [ev_snoc,List.getD_eq_getElem?_getD,Int.toNat_natCast,←hl,List.getElem?_append_right (Nat.le_refl _)]
 simp
def Bit (x:Int):Prop:=x=0∨x=1
theorem gval3 (B:List Int) (gs:List Gt) (a b:Int):gval B (ev B gs) ⟨3,a,b⟩=(V B gs a + V B gs b) % 2:=rfl
theorem gval4 (B:List Int) (gs:List Gt) (a b:Int):gval B (ev B gs) ⟨4,a,b⟩=V B gs a * V B gs b:=rfl
theorem gval5 (B:List Int) (gs:List Gt) (a b:Int):gval B (ev B gs) ⟨5,a,b⟩=1 - V B gs a:=rfl
theorem gval2 (B:List Int) (gs:List Gt) (a b:Int):gval B (ev B gs) ⟨2,a,b⟩=a:=rfl
theorem gval1 (B:List Int) (gs:List Gt) (a b:Int):gval B (ev B gs) ⟨1,a,b⟩=B.getD a.toNat 0:=rfl
theorem bit_add {x y:Int}:Bit ((x + y) % 2):=by unfold Bit; omega
theorem bit_mul {x y:Int} (hx:Bit x) (hy:Bit y):Bit (x * y):=by
 rcases hx with rfl | rfl <;> rcases hy with rfl | rfl <;> simp [Bit]
theorem bit_not {x:Int} (hx:Bit x):Bit (1 - x):=by unfold Bit at *; omega
theorem gval_bit {B:List Int} {gs:List Gt} {g:Gt} (hB:∀ x∈B,Bit x) (hb:∀ w,Bit (V B gs w)) {n:Int} (hg:gateB g n=true):Bit (gval B (ev B gs) g):=by
 unfold gval
 split
 ·rw [List.getD_eq_getElem?_getD]
  cases h:B[g.a.toNat]? with
  | none=>exact .inl rfl
  | some x=>exact hB x (List.mem_of_getElem? h)
 split
 ·next h1 h2 =>
  unfold gateB at hg
  rw [if_neg h1,if_pos h2] at hg
  simp only [Bool.and_eq_true,inB_iff] at hg
  unfold Bit
  omega
 split
 ·exact bit_add
 split
 ·exact bit_mul (hb g.a) (hb g.b)
 ·exact bit_not (hb g.a)
theorem ev_bit {B:List Int} {gs:List Gt} (hB:∀ x∈B,Bit x) (h:gatesB 0 gs=true):∀ w,Bit (V B gs w):=by
 have:∀ k,k≤gs.length→∀ w,Bit (V B (gs.take k) w):=fun k=>by
  induction k with
  | zero=>intro _ w; simp [V,ev,Bit]
  | succ k ih =>
   intro hk w
   have hk':k < gs.length:=by omega
   have hg:=gatesB_at h (List.getElem?_eq_getElem hk')
   rw [List.take_succ_eq_append_getElem hk']
   unfold V
   rw [ev_snoc,List.getD_eq_getElem?_getD]
   by_cases hw:w.toNat < (ev B (gs.take k)).length
   ·rw [List.getElem?_append_left hw,←List.getD_eq_getElem?_getD]
    exact ih (by omega) w
   ·rw [List.getElem?_append_right (by omega)]
    by_cases hw2:w.toNat - (ev B (gs.take k)).length=0
    ·rw [hw2]
     exact gval_bit hB (ih (by omega)) hg
    ·rw [List.getElem?_eq_none (by simp; omega)]
     exact .inl rfl
 have h1:=this gs.length (Nat.le_refl _)
 rwa [List.take_length] at h1
theorem full_sem {B:List Int} {gs:List Gt} {a b c:Int} (hB:∀ x∈B,Bit x) (h:gatesB 0 gs=true) (ha:wireB gs.length a=true) (hb:wireB gs.length b=true) (hc:wireB gs.length c=true) :
  V B (fullG gs a b c) ((gs.length + 2:Nat):Int) + 2 * V B (fullG gs a b c) ((gs.length + 4:Nat):Int)=V B gs a + V B gs b + V B gs c:=by
 have e:fullG gs a b c=gs ++ [⟨3,a,c⟩] ++ [⟨3,b,c⟩] ++ [⟨3,a,((gs.length + 1:Nat):Int)⟩] ++ [⟨4,((gs.length:Nat):Int),((gs.length + 1:Nat):Int)⟩] ++ [⟨3,((gs.length + 3:Nat):Int),c⟩]:=by simp [fullG]
 rw [e]
 have va:=ev_bit hB h a
 have vb:=ev_bit hB h b
 have vc:=ev_bit hB h c
 obtain ⟨g1,h1⟩:∃ g,gs ++ [⟨3,a,c⟩]=g:=⟨_,rfl⟩
 have l1:g1.length=gs.length + 1:=by rw [←h1]; simp
 have a1:V B g1 a=V B gs a:=by rw [←h1]; exact V_snoc _ ha
 have b1:V B g1 b=V B gs b:=by rw [←h1]; exact V_snoc _ hb
 have c1:V B g1 c=V B gs c:=by rw [←h1]; exact V_snoc _ hc
 have n1:V B g1 (gs.length:Int)=(V B gs a + V B gs c) % 2:=by rw [←h1]; exact V_new _ rfl
 rw [h1]
 obtain ⟨g2,h2⟩:∃ g,g1 ++ [⟨3,b,c⟩]=g:=⟨_,rfl⟩
 have l2:g2.length=gs.length + 2:=by rw [←h2]; simp [l1]
 have a2:V B g2 a=V B gs a:=by rw [←h2,V_snoc _ (wireB_mono ha (by omega)),a1]
 have c2:V B g2 c=V B gs c:=by rw [←h2,V_snoc _ (wireB_mono hc (by omega)),c1]
 have p2:V B g2 (gs.length:Int)=(V B gs a + V B gs c) % 2:=by rw [←h2,V_snoc _ (wire_at (by omega)),n1]
 have n2:V B g2 ((gs.length + 1:Nat):Int)=(V B gs b + V B gs c) % 2:=by rw [←h2,V_new _ l1,gval3,b1,c1]
 rw [h2]
 obtain ⟨g3,h3⟩:∃ g,g2 ++ [⟨3,a,((gs.length + 1:Nat):Int)⟩]=g:=⟨_,rfl⟩
 have l3:g3.length=gs.length + 3:=by rw [←h3]; simp [l2]
 have c3:V B g3 c=V B gs c:=by rw [←h3,V_snoc _ (wireB_mono hc (by omega)),c2]
 have p3:V B g3 (gs.length:Int)=(V B gs a + V B gs c) % 2:=by rw [←h3,V_snoc _ (wire_at (by omega)),p2]
 have q3:V B g3 ((gs.length + 1:Nat):Int)=(V B gs b + V B gs c) % 2:=by rw [←h3,V_snoc _ (wire_at (by omega)),n2]
 have n3:V B g3 ((gs.length + 2:Nat):Int)=(V B gs a + (V B gs b + V B gs c) % 2) % 2:=by rw [←h3,V_new _ l2,gval3,a2,n2]
 rw [h3]
 obtain ⟨g4,h4⟩:∃ g,g3 ++ [⟨4,((gs.length:Nat):Int),((gs.length + 1:Nat):Int)⟩]=g:=⟨_,rfl⟩
 have l4:g4.length=gs.length + 4:=by rw [←h4]; simp [l3]
 have c4:V B g4 c=V B gs c:=by rw [←h4,V_snoc _ (wireB_mono hc (by omega)),c3]
 have s4:V B g4 ((gs.length + 2:Nat):Int)=(V B gs a + (V B gs b + V B gs c) % 2) % 2:=by rw [←h4,V_snoc _ (wire_at (by omega)),n3]
 have n4:V B g4 ((gs.length + 3:Nat):Int)=(V B gs a + V B gs c) % 2 * ((V B gs b + V B gs c) % 2):=by rw [←h4,V_new _ l3,gval4,p3,q3]
 rw [h4,V_snoc _ (wire_at (by omega)),s4,V_new _ l4,gval3,n4,c4]
 rcases va with va | va <;> rcases vb with vb | vb <;> rcases vc with vc | vc <;> rw [va,vb,vc] <;> decide
def num (B:List Int) (gs:List Gt) (ws:List Int):Nat→Int
 | 0=>0
 | m + 1=>num B gs ws m + (2 ^ m:Nat) * V B gs (ws.getD m 0)
theorem num_same {B:List Int} {gs gs':List Gt} {ws ws':List Int}:∀ {m:Nat},(∀ j,j < m→V B gs' (ws'.getD j 0)=V B gs (ws.getD j 0))→num B gs' ws' m=num B gs ws m
 | 0,_=>rfl
 | m + 1,h=>by rw [num,num,num_same fun j hj=>h j (by omega),h m (by omega)]
theorem num_app {B:List Int} {gs:List Gt} {ws:List Int} {m:Nat} (l:List Gt) (hw:∀ j,j < m→wireB gs.length (ws.getD j 0)=true):num B (gs ++ l) ws m=num B gs ws m:=num_same fun j hj=>V_app (hw j hj) l
theorem num_range {B:List Int} {gs:List Gt} {ws:List Int} (hb:∀ w,Bit (V B gs w)):∀ m,0≤num B gs ws m∧num B gs ws m < (2 ^ m:Nat)
 | 0=>by simp [num]
 | m + 1=>by
  have ih:=num_range (ws:=ws) hb m
  have h:=hb (ws.getD m 0)
  rw [num,Nat.pow_succ]
  generalize (2 ^ m:Nat)=P at *
  rcases h with h | h <;> rw [h] <;> omega
theorem sumTo_app (gs:List Gt) (ws bs:List Int) (first:Int):∀ m,∃ l,sumTo gs ws bs first m=gs ++ l
 | 0=>⟨_,rfl⟩
 | m + 1=>by
  obtain ⟨l,h⟩:=sumTo_app gs ws bs first m
  exact ⟨_,by rw [sumTo,fullG,h,List.append_assoc]⟩
theorem sumTo_sem {B:List Int} {gs:List Gt} {ws bs:List Int} {first:Int} (hB:∀ x∈B,Bit x) (h:gatesB 0 gs=true) (hf:first=0∨first=1):∀ m,(∀ j,j < m→wireB gs.length (ws.getD j 0)=true∧wireB gs.length (bs.getD j 0)=true) →
  ∀ us:List Int,(∀ j,j < m→us.getD j 0=((gs.length + 5 * j + 3:Nat):Int)) →
  num B (sumTo gs ws bs first m) us m + (2 ^ m:Nat) * V B (sumTo gs ws bs first m) ((gs.length + 5 * m:Nat):Int)=first + num B gs ws m + num B gs bs m
 | 0,_,us,_=>by
  rw [num,num,num,sumTo,Nat.mul_zero,Nat.add_zero,V_new _ rfl,gval2]
  simp
 | m + 1,hw,us,hu=>by
  have ih:=sumTo_sem hB h hf m (fun j hj=>hw j (by omega)) us (fun j hj=>hu j (by omega))
  have hl:=sumTo_length gs ws bs first m
  have hok:=sumTo_ok h hf m (fun j hj=>hw j (by omega))
  obtain ⟨l,happ⟩:=sumTo_app gs ws bs first m
  obtain ⟨h1,h2⟩:=hw m (by omega)
  have w1:wireB (sumTo gs ws bs first m).length (ws.getD m 0)=true:=wireB_mono h1 (by omega)
  have w2:wireB (sumTo gs ws bs first m).length (bs.getD m 0)=true:=wireB_mono h2 (by omega)
  have fs:=full_sem (c:=((gs.length + 5 * m:Nat):Int)) hB hok w1 w2 (wire_at (by omega))
  have e1:V B (sumTo gs ws bs first m) (ws.getD m 0)=V B gs (ws.getD m 0):=by rw [happ]; exact V_app h1 _
  have e2:V B (sumTo gs ws bs first m) (bs.getD m 0)=V B gs (bs.getD m 0):=by rw [happ]; exact V_app h2 _
  have e3:num B (sumTo gs ws bs first (m + 1)) us m=num B (sumTo gs ws bs first m) us m:=by
   refine num_same fun j hj=>?_
   rw [sumTo,fullG,hu j (by omega)]
   exact V_app (wire_at (by omega)) _
  have e4:V B (sumTo gs ws bs first (m + 1)) (us.getD m 0)=V B (sumTo gs ws bs first (m + 1)) (((sumTo gs ws bs first m).length + 2:Nat):Int):=by rw [hu m (by omega),hl]
  have e5:((gs.length + 5 * (m + 1):Nat):Int)=(((sumTo gs ws bs first m).length + 4:Nat):Int):=by rw [hl]; omega
  rw [num,num,num,e3,e4,e5]
  rw [e1,e2] at fs
  rw [←sumTo] at fs
  have hP:((2 ^ (m + 1):Nat):Int)=2 * (2 ^ m:Nat):=by rw [Nat.pow_succ]; omega
  rw [hP]
  generalize V B (sumTo gs ws bs first (m + 1)) (((sumTo gs ws bs first m).length + 2:Nat):Int)=s at *
  generalize V B (sumTo gs ws bs first (m + 1)) (((sumTo gs ws bs first m).length + 4:Nat):Int)=d at *
  generalize ((2 ^ m:Nat):Int)=P at *
  have q1:P * s + 2 * P * d=P * (s + 2 * d):=by rw [Int.mul_add]; congr 1; rw [Int.mul_comm 2 P,Int.mul_assoc]
  have q2:P * (s + 2 * d)=P * V B gs (ws.getD m 0) + P * V B gs (bs.getD m 0) + P * V B (sumTo gs ws bs first m) ((gs.length + 5 * m:Nat):Int):=by rw [fs,Int.mul_add,Int.mul_add]
  omega
open Go.RowKit
section
variable {B:List Int} {gs:List Gt} {ws bs:List Int} {first:Int}
theorem num4 (B:List Int) (gs:List Gt) (ws:List Int):num B gs ws 4=V B gs (ws.getD 0 0) + 2 * V B gs (ws.getD 1 0) + 4 * V B gs (ws.getD 2 0) + 8 * V B gs (ws.getD 3 0):=by
 simp [num]
theorem sumW_at {n m j:Nat} (hj:j < m):(sumW n m).getD j 0=((n + 5 * j + 3:Nat):Int):=by
 have key:∀ m,j < m→(sumWs n m)[j]? = some ((n + 5 * j + 3:Nat):Int):=fun m=>by
  induction m with
  | zero=>intro h; omega
  | succ m ih =>
   intro h
   rw [sumWs]
   by_cases e:j=m
   ·subst e
    rw [List.getElem?_append_right (by rw [sumWs_length]; omega),sumWs_length,Nat.sub_self]
    rfl
   ·rw [List.getElem?_append_left (by rw [sumWs_length]; omega)]
    exact ih (by omega)
 rw [sumW,List.getD_eq_getElem?_getD,List.getElem?_append_left (by rw [sumWs_length]; omega),key m hj]
 rfl
theorem sumW_last (n m:Nat):(sumW n m).getD m 0=((n + 5 * m + 2:Nat):Int):=by
 rw [sumW,List.getD_eq_getElem?_getD,List.getElem?_append_right (by rw [sumWs_length]; omega),sumWs_length,Nat.sub_self]
 rfl
theorem sumG_app (gs:List Gt) (ws bs:List Int) (first:Int) (m:Nat):∃ l,sumG gs ws bs first m=gs ++ l:=by
 obtain ⟨l,h⟩:=sumTo_app gs ws bs first m
 exact ⟨_,by rw [sumG,h,List.append_assoc]⟩
theorem sumG_sem (hB:∀ x∈B,Bit x) (h:gatesB 0 gs=true) (hf:first=0∨first=1) (m:Nat) (hw:∀ j,j≤m→wireB gs.length (ws.getD j 0)=true∧wireB gs.length (bs.getD j 0)=true) :
  num B (sumG gs ws bs first m) (sumW gs.length m) (m + 1)=(first + num B gs ws (m + 1) + num B gs bs (m + 1)) % (2 ^ (m + 1):Nat):=by
 have hs:=sumTo_sem hB h hf m (fun j hj=>hw j (by omega)) (sumW gs.length m) (fun j hj=>sumW_at hj)
 have hl:=sumTo_length gs ws bs first m
 obtain ⟨l,happ⟩:=sumTo_app gs ws bs first m
 obtain ⟨h1,h2⟩:=hw m (Nat.le_refl _)
 have hok:=sumTo_ok h hf m (fun j hj=>hw j (by omega))
 have hbs:=ev_bit hB hok
 obtain ⟨g1,hg1⟩:∃ g,sumTo gs ws bs first m=g:=⟨_,rfl⟩
 rw [hg1] at hs hl happ hbs
 have e:sumG gs ws bs first m=g1 ++ [⟨3,ws.getD m 0,bs.getD m 0⟩] ++ [⟨3,((gs.length + 5 * m + 1:Nat):Int),((gs.length + 5 * m:Nat):Int)⟩]:=by rw [sumG,hg1]; simp
 have e3:num B (sumG gs ws bs first m) (sumW gs.length m) m=num B g1 (sumW gs.length m) m:=by
  refine num_same fun j hj=>?_
  rw [sumW_at hj,e,List.append_assoc]
  exact V_app (wire_at (by omega)) _
 rw [num,e3,sumW_last,e]
 obtain ⟨g2,hg2⟩:∃ g,g1 ++ [⟨3,ws.getD m 0,bs.getD m 0⟩]=g:=⟨_,rfl⟩
 have l2:g2.length=gs.length + 5 * m + 2:=by rw [←hg2]; simp [hl]
 have x2:V B g2 ((gs.length + 5 * m + 1:Nat):Int)=(V B gs (ws.getD m 0) + V B gs (bs.getD m 0)) % 2:=by
  rw [←hg2,V_new _ hl,gval3,happ,V_app h1,V_app h2]
 have c2:V B g2 ((gs.length + 5 * m:Nat):Int)=V B g1 ((gs.length + 5 * m:Nat):Int):=by rw [←hg2]; exact V_snoc _ (wire_at (by omega))
 rw [hg2,V_new _ l2,gval3,x2,c2,num,num]
 have hn:=num_range (ws:=sumW gs.length m) hbs m
 have b0:=hbs ((gs.length + 5 * m:Nat):Int)
 have hb:=ev_bit hB h
 have b1:=hb (ws.getD m 0)
 have b2:=hb (bs.getD m 0)
 have hP:((2 ^ (m + 1):Nat):Int)=2 * (2 ^ m:Nat):=by rw [Nat.pow_succ]; omega
 rw [hP]
 generalize V B gs (ws.getD m 0)=x at *
 generalize V B gs (bs.getD m 0)=y at *
 generalize V B g1 ((gs.length + 5 * m:Nat):Int)=c at *
 generalize num B g1 (sumW gs.length m) m=S at *
 generalize num B gs ws m=X at *
 generalize num B gs bs m=Y at *
 generalize ((2 ^ m:Nat):Int)=P at *
 have key:∀ q:Int,S=q - P * c→(q + P * x + P * y) % (2 * P)=S + P * (((x + y) % 2 + c) % 2):=by
  intro q hq
  rcases b0 with rfl | rfl <;> rcases b1 with rfl | rfl <;> rcases b2 with rfl | rfl
  ·simp at hq ⊢; subst hq; exact Int.emod_eq_of_lt (by omega) (by omega)
  ·simp at hq ⊢; subst hq; exact Int.emod_eq_of_lt (by omega) (by omega)
  ·simp at hq ⊢; subst hq; exact Int.emod_eq_of_lt (by omega) (by omega)
  ·simp at hq ⊢; subst hq; rw [show S + P + P=S + 2 * P by omega,Int.add_emod_right]; exact Int.emod_eq_of_lt (by omega) (by omega)
  ·simp at hq ⊢; rw [show q=S + P by omega]; exact Int.emod_eq_of_lt (by omega) (by omega)
  ·simp at hq ⊢; rw [show q + P=S + 2 * P by omega,Int.add_emod_right]; exact Int.emod_eq_of_lt (by omega) (by omega)
  ·simp at hq ⊢; rw [show q + P=S + 2 * P by omega,Int.add_emod_right]; exact Int.emod_eq_of_lt (by omega) (by omega)
  ·simp at hq ⊢; rw [show q + P + P=(S + P) + 2 * P by omega,Int.add_emod_right]; exact Int.emod_eq_of_lt (by omega) (by omega)
 have:=key (first + X + Y) (by omega)
 rw [←this]
 congr 1
 omega
theorem nots_app (gs:List Gt) (bs:List Int):∃ l,notsG gs bs=gs ++ l:=⟨_,rfl⟩
theorem nots_at:∀ (bs:List Int) (gs:List Gt),(∀ b∈bs,wireB gs.length b=true)→∀ j,j < bs.length→V B (notsG gs bs) ((gs.length + j:Nat):Int)=1 - V B gs (bs.getD j 0)
 | [],_,_,j,hj=>absurd hj (by simp)
 | b :: r,gs,hb,j,hj=>by
  have e:notsG gs (b :: r)=notsG (gs ++ [⟨5,b,0⟩]) r:=by simp [notsG]
  have hw:=hb b (by simp)
  rw [e]
  cases j with
  | zero =>
   obtain ⟨l,hl⟩:=nots_app (gs ++ [⟨5,b,0⟩]) r
   rw [hl,Nat.add_zero,V_app (wire_at (by simp)),V_new _ rfl,gval5]
   rfl
  | succ j =>
   have ih:=nots_at r (gs ++ [⟨5,b,0⟩]) (fun x hx=>wireB_mono (hb x (by simp [hx])) (by simp)) j (by simpa using hj)
   rw [List.length_append,List.length_singleton,show gs.length + 1 + j=gs.length + (j + 1) by omega] at ih
   rw [ih]
   congr 1
   have hj':j < r.length:=by simpa using hj
   have hm:r.getD j 0∈r:=by
    rw [List.getD_eq_getElem?_getD,List.getElem?_eq_getElem hj']
    exact List.getElem_mem hj'
   show V B (gs ++ [⟨5,b,0⟩]) (r.getD j 0)=V B gs (r.getD j 0)
   exact V_snoc _ (hb _ (List.mem_cons_of_mem _ hm))
theorem upW_at {n k j:Nat} (hj:j < k):(upW n k).getD j 0=((n + j:Nat):Int):=by
 induction k with
 | zero=>omega
 | succ k ih =>
  rw [upW,List.getD_eq_getElem?_getD]
  by_cases hk:j=k
  ·subst hk
   rw [List.getElem?_append_right (by rw [upW_length]; omega),upW_length,Nat.sub_self]
   rfl
  ·rw [List.getElem?_append_left (by rw [upW_length]; omega),←List.getD_eq_getElem?_getD]
   exact ih (by omega)
theorem nots_sem (hw:wordB4 gs.length bs=true):num B (notsG gs bs) (upW gs.length 4) 4=15 - num B gs bs 4:=by
 have h4:=word_len hw
 have hm:=word_mem hw
 have k:=fun j (hj:j < 4)=>nots_at (B:=B) bs gs hm j (by omega)
 rw [num4,num4,upW_at (by omega),upW_at (by omega),upW_at (by omega),upW_at (by omega),k 0 (by omega),k 1 (by omega),k 2 (by omega),k 3 (by omega)]
 omega
theorem sub_sem (hB:∀ x∈B,Bit x) (h:gatesB 0 gs=true) (hw:wordB4 gs.length ws=true) (hb:wordB4 gs.length bs=true) :
  num B (sumG (notsG gs bs) ws (upW gs.length 4) 1 3) (sumW (gs.length + 4) 3) 4=(num B gs ws 4 - num B gs bs 4) % 16:=by
 have hl:=notsG_length gs bs
 have h4:=word_len hb
 have hs:=sumG_sem (ws:=ws) (bs:=upW gs.length 4) (first:=1) hB (nots_ok h (word_mem hb)) (.inr rfl) 3 fun j hj=>⟨wireB_mono (word_at hw (by omega)) (by omega),upW_wire (by omega) (by omega)⟩
 rw [hl,h4] at hs
 rw [hs,nots_sem hb]
 obtain ⟨l,e⟩:=nots_app gs bs
 rw [e,num_app l fun j hj=>word_at hw hj]
 have:((2 ^ (3 + 1):Nat):Int)=16:=rfl
 rw [this]
 omega
theorem less_sem (hB:∀ x∈B,Bit x) (h:gatesB 0 gs=true) (hw:wordB4 gs.length ws=true) (hb:wordB4 gs.length bs=true) :
  V B (lessG gs ws bs) ((gs.length + 25:Nat):Int)=if num B gs ws 4 < num B gs bs 4 then 1 else 0:=by
 have hl:=notsG_length gs bs
 have h4:=word_len hb
 have hls:=sumTo_length (notsG gs bs) ws (upW gs.length 4) 1 4
 have hok:=nots_ok h (word_mem hb)
 have hwj:∀ j,j < 4→wireB (notsG gs bs).length (ws.getD j 0)=true∧wireB (notsG gs bs).length ((upW gs.length 4).getD j 0)=true:=fun j hj=>⟨wireB_mono (word_at hw hj) (by omega),upW_wire hj (by omega)⟩
 have hs:=sumTo_sem (B:=B) (ws:=ws) (bs:=upW gs.length 4) (first:=1) hB hok (.inr rfl) 4 hwj [(((notsG gs bs).length + 5 * 0 + 3:Nat):Int),(((notsG gs bs).length + 5 * 1 + 3:Nat):Int),(((notsG gs bs).length + 5 * 2 + 3:Nat):Int),(((notsG gs bs).length + 5 * 3 + 3:Nat):Int)] (fun j hj=>by
  obtain rfl | rfl | rfl | rfl:j=0∨j=1∨j=2∨j=3:=by omega
  all_goals rfl)
 have hr:=num_range (ws:=[(((notsG gs bs).length + 5 * 0 + 3:Nat):Int),(((notsG gs bs).length + 5 * 1 + 3:Nat):Int),(((notsG gs bs).length + 5 * 2 + 3:Nat):Int),(((notsG gs bs).length + 5 * 3 + 3:Nat):Int)]) (ev_bit hB (sumTo_ok hok (.inr rfl) 4 hwj)) 4
 have hb1:=ev_bit hB (sumTo_ok hok (.inr rfl) 4 hwj) (((notsG gs bs).length + 5 * 4:Nat):Int)
 rw [nots_sem hb] at hs
 obtain ⟨l,e⟩:=nots_app gs bs
 have ew:num B (notsG gs bs) ws 4=num B gs ws 4:=by rw [e]; exact num_app l fun j hj=>word_at hw hj
 rw [ew] at hs
 unfold lessG
 rw [V_new _ (show (sumTo (notsG gs bs) ws (upW gs.length 4) 1 4).length=gs.length + 25 by omega),gval5,show ((gs.length + bs.length + 20:Nat):Int)=(((notsG gs bs).length + 5 * 4:Nat):Int) by omega]
 have hx:=num_range (ws:=ws) (ev_bit hB h) 4
 have hy:=num_range (ws:=bs) (ev_bit hB h) 4
 generalize V B (sumTo (notsG gs bs) ws (upW gs.length 4) 1 4) (((notsG gs bs).length + 5 * 4:Nat):Int)=c at *
 generalize num B (sumTo (notsG gs bs) ws (upW gs.length 4) 1 4) _ 4=S at *
 generalize num B gs ws 4=x at *
 generalize num B gs bs 4=y at *
 have e16:((2 ^ 4:Nat):Int)=16:=rfl
 rw [e16] at *
 unfold Bit at hb1
 split <;> omega
end
open Go.RowKit
section
variable {B:List Int} {gs:List Gt} {ws bs:List Int}
theorem const_app (gs:List Gt) (n:Int):∀ i,∃ l,constTo gs n i=gs ++ l
 | 0=>⟨[],by simp [constTo]⟩
 | i + 1=>by
  obtain ⟨l,h⟩:=const_app gs n i
  exact ⟨_,by rw [constTo,h,List.append_assoc]⟩
theorem in_app (gs:List Gt) (p n:Int):∀ i,∃ l,inTo gs p n i=gs ++ l
 | 0=>⟨[],by simp [inTo]⟩
 | i + 1=>by
  obtain ⟨l,h⟩:=in_app gs p n i
  exact ⟨_,by rw [inTo,h,List.append_assoc]⟩
theorem ands_app (gs:List Gt) (x:Int) (ws:List Int):∀ i,∃ l,andsTo gs x ws i=gs ++ l
 | 0=>⟨[],by simp [andsTo]⟩
 | i + 1=>by
  obtain ⟨l,h⟩:=ands_app gs x ws i
  exact ⟨_,by rw [andsTo,h,List.append_assoc]⟩
theorem bit_app (gs:List Gt) (k:Int) (ws bs:List Int):∀ i,∃ l,bitTo gs k ws bs i=gs ++ l
 | 0=>⟨[],by simp [bitTo]⟩
 | i + 1=>by
  obtain ⟨l,h⟩:=bit_app gs k ws bs i
  exact ⟨_,by rw [bitTo,h,List.append_assoc]⟩
theorem eqTo_app (gs:List Gt) (ws bs:List Int):∀ i,∃ l,eqTo gs ws bs i=gs ++ l
 | 0=>⟨[],by simp [eqTo]⟩
 | i + 1=>by
  obtain ⟨l,h⟩:=eqTo_app gs ws bs i
  exact ⟨_,by rw [eqTo,h,List.append_assoc]⟩
theorem mux_app (gs:List Gt) (s:Int) (ws bs:List Int):∀ i,∃ l,muxTo gs s ws bs i=gs ++ l
 | 0=>⟨[],by simp [muxTo]⟩
 | i + 1=>by
  obtain ⟨l,h⟩:=mux_app gs s ws bs i
  exact ⟨_,by rw [muxTo,h,List.append_assoc]⟩
theorem mul_app (gs:List Gt) (ws bs:List Int):∀ i,∃ l,(mulTo gs ws bs i).1=gs ++ l
 | 0=>by
  obtain ⟨l,h⟩:=ands_app gs (bs.getD 0 0) ws 4
  exact ⟨l,h⟩
 | i + 1=>by
  obtain ⟨l,h⟩:=mul_app gs ws bs i
  obtain ⟨l2,h2⟩:=ands_app (mulTo gs ws bs i).1 (bs.getD (i + 1) 0) ws (3 - i)
  obtain ⟨l3,h3⟩:=sumG_app (andsTo (mulTo gs ws bs i).1 (bs.getD (i + 1) 0) ws (3 - i)) ((mulTo gs ws bs i).2.drop (i + 1)) (upW (mulTo gs ws bs i).1.length (3 - i)) 0 (2 - i)
  exact ⟨l ++ l2 ++ l3,by simp only [mulTo]; rw [h3,h2,h]; simp⟩
theorem less_app (gs:List Gt) (ws bs:List Int):∃ l,lessG gs ws bs=gs ++ l:=by
 obtain ⟨l,h⟩:=sumTo_app (notsG gs bs) ws (upW gs.length 4) 1 4
 exact ⟨_,by rw [lessG,h,notsG]; simp; rfl⟩
theorem eq_app (gs:List Gt) (ws bs:List Int):∃ l,eqG gs ws bs=gs ++ l:=by
 obtain ⟨l,h⟩:=eqTo_app gs ws bs 4
 exact ⟨_,by rw [eqG,h,List.append_assoc]⟩
theorem const_at (gs:List Gt) (n:Int):∀ i j,j < i→V B (constTo gs n i) ((gs.length + j:Nat):Int)=n / (2 ^ j:Nat) % 2
 | i + 1,j,hj=>by
  have hl:=constTo_length gs n i
  rw [constTo]
  by_cases e:j=i
  ·subst e
   rw [V_new _ hl,gval2]
  ·rw [V_snoc _ (wire_at (by omega))]
   exact const_at gs n i j (by omega)
theorem in_at (gs:List Gt) (p n:Int):∀ i j,j < i→V B (inTo gs p n i) ((gs.length + j:Nat):Int)=B.getD ((p * 4 + n) * 4 + j).toNat 0
 | i + 1,j,hj=>by
  have hl:=inTo_length gs p n i
  rw [inTo]
  by_cases e:j=i
  ·subst e
   rw [V_new _ hl,gval1]
  ·rw [V_snoc _ (wire_at (by omega))]
   exact in_at gs p n i j (by omega)
theorem ands_at {x:Int} (hx:wireB gs.length x=true):∀ i,(∀ j,j < i→wireB gs.length (ws.getD j 0)=true)→∀ j,j < i→V B (andsTo gs x ws i) ((gs.length + j:Nat):Int)=V B gs x * V B gs (ws.getD j 0)
 | i + 1,hw,j,hj=>by
  have hl:=andsTo_length gs x ws i
  rw [andsTo]
  by_cases e:j=i
  ·subst e
   obtain ⟨l,h⟩:=ands_app gs x ws j
   rw [V_new _ hl,gval4,h,V_app hx,V_app (hw j (by omega))]
  ·rw [V_snoc _ (wire_at (by omega))]
   exact ands_at hx i (fun j hj=>hw j (by omega)) j (by omega)
theorem bit_at {k:Int}:∀ i,(∀ j,j < i→wireB gs.length (ws.getD j 0)=true∧wireB gs.length (bs.getD j 0)=true)→∀ j,j < i →
  V B (bitTo gs k ws bs i) ((gs.length + j:Nat):Int)=gval B [V B gs (ws.getD j 0),V B gs (bs.getD j 0)] ⟨k,0,1⟩∨k=1∨k=2
 | i + 1,hw,j,hj=>by
  have hl:=bitTo_length gs k ws bs i
  rw [bitTo]
  by_cases e:j=i
  ·subst e
   obtain ⟨l,h⟩:=bit_app gs k ws bs j
   by_cases h1:k=1
   ·exact .inr (.inl h1)
   by_cases h2:k=2
   ·exact .inr (.inr h2)
   left
   rw [V_new _ hl]
   unfold gval
   dsimp only
   rw [if_neg h1,if_neg h2,if_neg h1,if_neg h2]
   have e1:(ev B (bitTo gs k ws bs j)).getD (ws.getD j 0).toNat 0=V B gs (ws.getD j 0):=by rw [h]; exact V_app (hw j (by omega)).1 _
   have e2:(ev B (bitTo gs k ws bs j)).getD (bs.getD j 0).toNat 0=V B gs (bs.getD j 0):=by rw [h]; exact V_app (hw j (by omega)).2 _
   rw [e1,e2]
   rfl
  ·rw [V_snoc _ (wire_at (by omega))]
   exact bit_at i (fun j hj=>hw j (by omega)) j (by omega)
theorem eqTo_at:∀ i,(∀ j,j < i→wireB gs.length (ws.getD j 0)=true∧wireB gs.length (bs.getD j 0)=true)→∀ j,j < i →
  V B (eqTo gs ws bs i) ((gs.length + 2 * j + 1:Nat):Int)=1 - (V B gs (ws.getD j 0) + V B gs (bs.getD j 0)) % 2
 | i + 1,hw,j,hj=>by
  have hl:=eqTo_length gs ws bs i
  have e0:eqTo gs ws bs (i + 1)=eqTo gs ws bs i ++ [⟨3,ws.getD i 0,bs.getD i 0⟩] ++ [⟨5,((gs.length + 2 * i:Nat):Int),0⟩]:=by rw [eqTo]; simp
  by_cases e:j=i
  ·subst e
   obtain ⟨l,h⟩:=eqTo_app gs ws bs j
   rw [e0,V_new _ (by simp; omega),gval5,V_new _ hl,gval3,h,V_app (hw j (by omega)).1,V_app (hw j (by omega)).2]
  ·rw [eqTo,V_app (wire_at (by omega))]
   exact eqTo_at i (fun j hj=>hw j (by omega)) j (by omega)
theorem mux_at {s:Int} (hs:wireB gs.length s=true):∀ i,(∀ j,j < i→wireB gs.length (ws.getD j 0)=true∧wireB gs.length (bs.getD j 0)=true)→∀ j,j < i →
  V B (muxTo gs s ws bs i) ((gs.length + 3 * j + 2:Nat):Int)=(V B gs s * ((V B gs (ws.getD j 0) + V B gs (bs.getD j 0)) % 2) + V B gs (bs.getD j 0)) % 2
 | i + 1,hw,j,hj=>by
  have hl:=muxTo_length gs s ws bs i
  have e0:muxTo gs s ws bs (i + 1)=muxTo gs s ws bs i ++ [⟨3,ws.getD i 0,bs.getD i 0⟩] ++ [⟨4,s,((gs.length + 3 * i:Nat):Int)⟩] ++ [⟨3,((gs.length + 3 * i + 1:Nat):Int),bs.getD i 0⟩]:=by rw [muxTo]; simp
  by_cases e:j=i
  ·subst e
   obtain ⟨l,h⟩:=mux_app gs s ws bs j
   obtain ⟨h1,h2⟩:=hw j (by omega)
   have hs':=wireB_mono (m:=(muxTo gs s ws bs j).length) hs (by omega)
   have h2':=wireB_mono (m:=(muxTo gs s ws bs j).length) h2 (by omega)
   rw [e0,V_new _ (by simp; omega),gval3,V_new _ (by simp; omega),gval4,V_new _ hl,gval3,V_snoc _ hs',V_snoc _ (wireB_mono h2' (by simp)),V_snoc _ h2',h,V_app h1,V_app h2,V_app hs]
  ·rw [muxTo,V_app (wire_at (by omega))]
   exact mux_at hs i (fun j hj=>hw j (by omega)) j (by omega)
theorem const_sem (n:Int) (hn:0≤n∧n≤15):num B (constTo gs n 4) (upW gs.length 4) 4=n:=by
 rw [num4,upW_at (by omega),upW_at (by omega),upW_at (by omega),upW_at (by omega),const_at gs n 4 0 (by omega),const_at gs n 4 1 (by omega),const_at gs n 4 2 (by omega),const_at gs n 4 3 (by omega)]
 simp
 omega
theorem in_sem (p n:Int):num B (inTo gs p n 4) (upW gs.length 4) 4=B.getD ((p * 4 + n) * 4 + 0).toNat 0 + 2 * B.getD ((p * 4 + n) * 4 + 1).toNat 0 + 4 * B.getD ((p * 4 + n) * 4 + 2).toNat 0 + 8 * B.getD ((p * 4 + n) * 4 + 3).toNat 0:=by
 rw [num4,upW_at (by omega),upW_at (by omega),upW_at (by omega),upW_at (by omega),in_at gs p n 4 0 (by omega),in_at gs p n 4 1 (by omega),in_at gs p n 4 2 (by omega),in_at gs p n 4 3 (by omega)]
 rfl
theorem muxW_at {n j:Nat} (hj:j < 4):(muxW n 4).getD j 0=((n + 3 * j + 2:Nat):Int):=by
 obtain rfl | rfl | rfl | rfl:j=0∨j=1∨j=2∨j=3:=by omega
 all_goals rfl
theorem mux_sem {s:Int} (hB:∀ x∈B,Bit x) (h:gatesB 0 gs=true) (hs:wireB gs.length s=true) (hw:wordB4 gs.length ws=true) (hb:wordB4 gs.length bs=true) :
  num B (muxTo gs s ws bs 4) (muxW gs.length 4) 4=if V B gs s=1 then num B gs ws 4 else num B gs bs 4:=by
 have hv:=ev_bit hB h
 have k:=mux_at (B:=B) hs 4 (fun j hj=>⟨word_at hw hj,word_at hb hj⟩)
 have f:∀ x y:Int,Bit x→Bit y→(V B gs s=1→(V B gs s * ((x + y) % 2) + y) % 2=x)∧(V B gs s≠1→(V B gs s * ((x + y) % 2) + y) % 2=y):=by
  intro x y hx hy
  rcases hx with rfl | rfl <;> rcases hy with rfl | rfl <;> rcases hv s with e | e <;> rw [e] <;> decide
 rw [num4,muxW_at (by omega),muxW_at (by omega),muxW_at (by omega),muxW_at (by omega),k 0 (by omega),k 1 (by omega),k 2 (by omega),k 3 (by omega)]
 split
 ·next e=>rw [(f _ _ (hv _) (hv _)).1 e,(f _ _ (hv _) (hv _)).1 e,(f _ _ (hv _) (hv _)).1 e,(f _ _ (hv _) (hv _)).1 e,num4]
 ·next e=>rw [(f _ _ (hv _) (hv _)).2 e,(f _ _ (hv _) (hv _)).2 e,(f _ _ (hv _) (hv _)).2 e,(f _ _ (hv _) (hv _)).2 e,num4]
theorem eq_sem (hB:∀ x∈B,Bit x) (h:gatesB 0 gs=true) (hw:wordB4 gs.length ws=true) (hb:wordB4 gs.length bs=true) :
  V B (eqG gs ws bs) ((gs.length + 10:Nat):Int)=if num B gs ws 4=num B gs bs 4 then 1 else 0:=by
 have hv:=ev_bit hB h
 have hl:=eqTo_length gs ws bs 4
 have k:=eqTo_at (B:=B) (gs:=gs) (ws:=ws) (bs:=bs) 4 (fun j hj=>⟨word_at hw hj,word_at hb hj⟩)
 obtain ⟨g0,hg0⟩:∃ g,eqTo gs ws bs 4=g:=⟨_,rfl⟩
 rw [hg0] at hl k
 have e:eqG gs ws bs=g0 ++ [⟨4,((gs.length + 1:Nat):Int),((gs.length + 3:Nat):Int)⟩] ++ [⟨4,((gs.length + 8:Nat):Int),((gs.length + 5:Nat):Int)⟩] ++ [⟨4,((gs.length + 9:Nat):Int),((gs.length + 7:Nat):Int)⟩]:=by rw [eqG,hg0]; simp
 have w:=fun (j:Nat) (hj:j < gs.length + 8)=>wire_at (n:=g0.length) (i:=j) (by omega)
 have k0:=k 0 (by omega)
 have k1:=k 1 (by omega)
 have k2:=k 2 (by omega)
 have k3:=k 3 (by omega)
 have v1:V B (g0 ++ [⟨4,((gs.length + 1:Nat):Int),((gs.length + 3:Nat):Int)⟩]) ((gs.length + 8:Nat):Int)=V B g0 ((gs.length + 1:Nat):Int) * V B g0 ((gs.length + 3:Nat):Int):=by rw [V_new _ (by omega),gval4]
 have v2:V B (g0 ++ [⟨4,((gs.length + 1:Nat):Int),((gs.length + 3:Nat):Int)⟩] ++ [⟨4,((gs.length + 8:Nat):Int),((gs.length + 5:Nat):Int)⟩]) ((gs.length + 9:Nat):Int)=V B g0 ((gs.length + 1:Nat):Int) * V B g0 ((gs.length + 3:Nat):Int) * V B g0 ((gs.length + 5:Nat):Int):=by
  rw [V_new _ (by simp; omega),gval4,v1,V_snoc _ (w _ (by omega))]
 have w7:V B (g0 ++ [⟨4,((gs.length + 1:Nat):Int),((gs.length + 3:Nat):Int)⟩] ++ [⟨4,((gs.length + 8:Nat):Int),((gs.length + 5:Nat):Int)⟩]) ((gs.length + 7:Nat):Int)=V B g0 ((gs.length + 7:Nat):Int):=by
  rw [V_snoc _ (wireB_mono (w _ (by omega)) (by simp)),V_snoc _ (w _ (by omega))]
 rw [e,V_new _ (by simp; omega),gval4,v2,w7]
 have c0:gs.length + 2 * 0 + 1=gs.length + 1:=by omega
 have c1:gs.length + 2 * 1 + 1=gs.length + 3:=by omega
 have c2:gs.length + 2 * 2 + 1=gs.length + 5:=by omega
 have c3:gs.length + 2 * 3 + 1=gs.length + 7:=by omega
 rw [c0] at k0
 rw [c1] at k1
 rw [c2] at k2
 rw [c3] at k3
 rw [k0,k1,k2,k3,num4,num4]
 have a0:=hv (ws.getD 0 0)
 have a1:=hv (ws.getD 1 0)
 have a2:=hv (ws.getD 2 0)
 have a3:=hv (ws.getD 3 0)
 have b0:=hv (bs.getD 0 0)
 have b1:=hv (bs.getD 1 0)
 have b2:=hv (bs.getD 2 0)
 have b3:=hv (bs.getD 3 0)
 clear k0 k1 k2 k3 v1 v2 w7 w k e hg0 hl
 generalize V B gs (ws.getD 0 0)=x0 at *
 generalize V B gs (ws.getD 1 0)=x1 at *
 generalize V B gs (ws.getD 2 0)=x2 at *
 generalize V B gs (ws.getD 3 0)=x3 at *
 generalize V B gs (bs.getD 0 0)=y0 at *
 generalize V B gs (bs.getD 1 0)=y1 at *
 generalize V B gs (bs.getD 2 0)=y2 at *
 generalize V B gs (bs.getD 3 0)=y3 at *
 have key:∀ x y:Int,Bit x→Bit y→1 - (x + y) % 2=if x=y then 1 else 0:=by
  intro x y hx hy
  rcases hx with rfl | rfl <;> rcases hy with rfl | rfl <;> decide
 rw [key _ _ a0 b0,key _ _ a1 b1,key _ _ a2 b2,key _ _ a3 b3]
 unfold Bit at *
 by_cases h0:x0=y0 <;> by_cases h1:x1=y1 <;> by_cases h2:x2=y2 <;> by_cases h3:x3=y3 <;> simp only [h0,h1,h2,h3,if_true,if_false,Int.mul_one,Int.mul_zero] <;> split <;> first | rfl | omega
end
open Go.RowKit
section
variable {B:List Int} {gs:List Gt} {ws bs:List Int}
theorem num_split (B:List Int) (gs:List Gt) (ws:List Int) (a:Nat):∀ b,num B gs ws (a + b)=num B gs ws a + (2 ^ a:Nat) * num B gs (ws.drop a) b
 | 0=>by simp [num]
 | b + 1=>by
  rw [show a + (b + 1)=(a + b) + 1 by omega,num,num_split B gs ws a b,num,drop_getD,Int.mul_add,←Int.mul_assoc,show ((2 ^ (a + b):Nat):Int)=(2 ^ a:Nat) * (2 ^ b:Nat) by rw [Nat.pow_add]; exact Int.natCast_mul ..]
  omega
theorem num_ands {y:Int} {n:Nat} (hy:Bit y) {g:List Gt}:∀ m,(∀ j,j < m→V B g ((n + j:Nat):Int)=y * V B gs (ws.getD j 0))→∀ k,m≤k→num B g (upW n k) m=y * num B gs ws m
 | 0,_,_,_=>by simp [num]
 | m + 1,h,k,hk=>by
  rw [num,num,num_ands hy m (fun j hj=>h j (by omega)) k (by omega),upW_at (by omega),h m (by omega),Int.mul_add]
  congr 1
  rw [←Int.mul_assoc,←Int.mul_assoc,Int.mul_comm y]
theorem take_app_at {l r:List Int} {a j:Nat} (hl:a≤l.length):(l.take a ++ r).getD j 0=if j < a then l.getD j 0 else r.getD (j - a) 0:=by
 rw [List.getD_eq_getElem?_getD]
 split
 ·next h =>
  rw [List.getElem?_append_left (by rw [List.length_take]; omega),List.getElem?_take,if_pos h,←List.getD_eq_getElem?_getD]
 ·next h =>
  rw [List.getElem?_append_right (by rw [List.length_take]; omega),List.length_take,←List.getD_eq_getElem?_getD,Nat.min_eq_left hl]
theorem mul_sem (hB:∀ x∈B,Bit x) (h:gatesB 0 gs=true) (hw:wordB4 gs.length ws=true) (hb:wordB4 gs.length bs=true) :
  ∀ i,i≤3→num B (mulTo gs ws bs i).1 (mulTo gs ws bs i).2 4=(num B gs ws 4 * num B gs bs (i + 1)) % 16
 | 0,_=>by
  have hv:=ev_bit hB h
  have ha:=ands_at (B:=B) (x:=bs.getD 0 0) (word_at hb (by omega)) 4 (fun j hj=>word_at hw hj)
  have hn:=num_ands (B:=B) (gs:=gs) (ws:=ws) (n:=gs.length) (hv (bs.getD 0 0)) 4 ha 4 (Nat.le_refl _)
  have hr:=num_range (ws:=ws) hv 4
  have h0:=hv (bs.getD 0 0)
  rw [show ((2 ^ 4:Nat):Int)=16 from rfl] at hr
  show num B (andsTo gs (bs.getD 0 0) ws 4) (upW gs.length 4) 4=(num B gs ws 4 * (0 + ((2 ^ 0:Nat):Int) * V B gs (bs.getD 0 0))) % 16
  rw [hn]
  generalize num B gs ws 4=X at *
  rcases h0 with e | e <;> rw [e]
  ·simp
  ·simp
   exact (Int.emod_eq_of_lt hr.1 hr.2).symm
 | i + 1,hi=>by
  have ih:=mul_sem hB h hw hb i (by omega)
  obtain ⟨k1,k2,k3⟩:=mulTo_ok h hw hb i (by omega)
  obtain ⟨l,happ⟩:=mul_app gs ws bs i
  have hv:=ev_bit hB h
  simp only [mulTo]
  generalize (mulTo gs ws bs i).1=g0 at *
  generalize (mulTo gs ws bs i).2=w0 at *
  have hv0:=ev_bit hB k1
  have l4:=word_len k2
  have hbi:=word_at hb (j:=i + 1) (by omega)
  have ha:=ands_at (B:=B) (gs:=g0) (ws:=ws) (x:=bs.getD (i + 1) 0) (wireB_mono hbi k3) (3 - i) (fun j hj=>wireB_mono (word_at hw (by omega)) k3)
  have hal:=andsTo_length g0 (bs.getD (i + 1) 0) ws (3 - i)
  have haok:=andsTo_ok (x:=bs.getD (i + 1) 0) (ws:=ws) k1 (wireB_mono hbi k3) (3 - i) (fun j hj=>wireB_mono (word_at hw (by omega)) k3)
  obtain ⟨l2,happ2⟩:=ands_app g0 (bs.getD (i + 1) 0) ws (3 - i)
  have hn:=num_ands (B:=B) (gs:=g0) (ws:=ws) (n:=g0.length) (hv0 (bs.getD (i + 1) 0)) (3 - i) ha (3 - i) (Nat.le_refl _)
  have e1:V B g0 (bs.getD (i + 1) 0)=V B gs (bs.getD (i + 1) 0):=by rw [happ]; exact V_app hbi _
  have e2:∀ m,m≤4→num B g0 ws m=num B gs ws m:=fun m hm=>by rw [happ]; exact num_app _ fun j hj=>word_at hw (by omega)
  rw [e1,e2 _ (by omega)] at hn
  obtain ⟨g,hg⟩:∃ g,andsTo g0 (bs.getD (i + 1) 0) ws (3 - i)=g:=⟨_,rfl⟩
  rw [hg] at hn hal haok happ2
  rw [hg]
  have hwd:∀ j,j≤2 - i→wireB g.length ((w0.drop (i + 1)).getD j 0)=true∧wireB g.length ((upW g0.length (3 - i)).getD j 0)=true:=fun j hj=>⟨by rw [drop_getD]; exact wireB_mono (word_at k2 (by omega)) (by omega),upW_wire (by omega) (by omega)⟩
  have hs:=sumG_sem (B:=B) (ws:=w0.drop (i + 1)) (bs:=upW g0.length (3 - i)) (first:=0) hB haok (.inl rfl) (2 - i) hwd
  have hsl:=sumG_length g (w0.drop (i + 1)) (upW g0.length (3 - i)) 0 (2 - i)
  rw [show 2 - i + 1=3 - i by omega,hn] at hs
  obtain ⟨l3,happ3⟩:=sumG_app g (w0.drop (i + 1)) (upW g0.length (3 - i)) 0 (2 - i)
  obtain ⟨g3,hg3⟩:∃ g3,sumG g (w0.drop (i + 1)) (upW g0.length (3 - i)) 0 (2 - i)=g3:=⟨_,rfl⟩
  rw [hg3] at hs hsl happ3
  rw [hg3]
  have e3:num B g (w0.drop (i + 1)) (3 - i)=num B g0 (w0.drop (i + 1)) (3 - i):=by rw [happ2]; exact num_app _ fun j hj=>by rw [drop_getD]; exact word_at k2 (by omega)
  rw [e3] at hs
  have hsp:=num_split B g0 w0 (i + 1) (3 - i)
  rw [show i + 1 + (3 - i)=4 by omega] at hsp
  have hsp2:=num_split B g3 (w0.take (i + 1) ++ sumW g.length (2 - i)) (i + 1) (3 - i)
  rw [show i + 1 + (3 - i)=4 by omega] at hsp2
  have e4:num B g3 (w0.take (i + 1) ++ sumW g.length (2 - i)) (i + 1)=num B g0 w0 (i + 1):=by
   refine num_same fun j hj=>?_
   rw [take_app_at (by omega),if_pos hj,happ3,happ2]
   rw [V_app (wireB_mono (word_at k2 (by omega)) (by simp)),V_app (word_at k2 (by omega))]
  have e5:num B g3 ((w0.take (i + 1) ++ sumW g.length (2 - i)).drop (i + 1)) (3 - i)=num B g3 (sumW g.length (2 - i)) (3 - i):=by
   refine num_same fun j hj=>?_
   rw [drop_getD,take_app_at (by omega),if_neg (by omega),show i + 1 + j - (i + 1)=j by omega]
  rw [hsp2,e4,e5,hs]
  have hr:=num_range (ws:=ws) hv 4
  have hx:=num_split B gs ws (3 - i) (i + 1)
  rw [show 3 - i + (i + 1)=4 by omega] at hx
  have hyb:=hv (bs.getD (i + 1) 0)
  have hlo:=num_range (ws:=w0) hv0 (i + 1)
  have hq:(num B gs ws 4 * num B gs bs (i + 1 + 1)) % 16=(num B g0 w0 4 + num B gs ws 4 * ((2 ^ (i + 1):Nat) * V B gs (bs.getD (i + 1) 0))) % 16:=by
   rw [ih,Int.emod_add_emod,←Int.mul_add]
   rfl
  rw [hq,hsp]
  clear ih hq hs hsp hsp2 e1 e2 e3 e4 e5 hn ha happ happ2 happ3 hsl hal haok hwd hg hg3
  generalize V B gs (bs.getD (i + 1) 0)=y at *
  generalize num B g0 w0 (i + 1)=lo at *
  generalize num B g0 (w0.drop (i + 1)) (3 - i)=hi at *
  generalize num B gs ws (3 - i)=xl at *
  generalize num B gs (ws.drop (3 - i)) (i + 1)=xh at *
  rw [hx]
  obtain rfl | rfl | rfl:i=0∨i=1∨i=2:=by omega
  all_goals
   simp at hr hlo ⊢
   rcases hyb with rfl | rfl
   ·simp
    omega
   ·simp
    omega
end
open Go.RowKit
theorem land16:∀ a,a < 16→∀ b,b < 16→a &&& b=a % 2 * (b % 2) + 2 * (a / 2 % 2 * (b / 2 % 2)) + 4 * (a / 4 % 2 * (b / 4 % 2)) + 8 * (a / 8 % 2 * (b / 8 % 2)):=by decide
theorem lxor16:∀ a,a < 16→∀ b,b < 16→a ^^^ b=(a % 2 + b % 2) % 2 + 2 * ((a / 2 % 2 + b / 2 % 2) % 2) + 4 * ((a / 4 % 2 + b / 4 % 2) % 2) + 8 * ((a / 8 % 2 + b / 8 % 2) % 2):=by decide
section
variable {B:List Int} {gs:List Gt} {ws bs:List Int}
theorem num_nat (hv:∀ w,Bit (V B gs w)):∃ n:Nat,n < 16∧num B gs ws 4=n∧V B gs (ws.getD 0 0)=(n % 2:Nat)∧V B gs (ws.getD 1 0)=(n / 2 % 2:Nat)∧V B gs (ws.getD 2 0)=(n / 4 % 2:Nat)∧V B gs (ws.getD 3 0)=(n / 8 % 2:Nat):=by
 have h0:=hv (ws.getD 0 0)
 have h1:=hv (ws.getD 1 0)
 have h2:=hv (ws.getD 2 0)
 have h3:=hv (ws.getD 3 0)
 refine ⟨(num B gs ws 4).toNat,?_⟩
 rw [num4]
 unfold Bit at *
 omega
theorem and_sem (hB:∀ x∈B,Bit x) (h:gatesB 0 gs=true) (hw:wordB4 gs.length ws=true) (hb:wordB4 gs.length bs=true) :
  num B (bitTo gs 4 ws bs 4) (upW gs.length 4) 4=bits .and .i64 (num B gs ws 4) (num B gs bs 4):=by
 have hv:=ev_bit hB h
 have k:=fun j (hj:j < 4)=>(bit_at (B:=B) (gs:=gs) (ws:=ws) (bs:=bs) (k:=4) 4 (fun j hj=>⟨word_at hw hj,word_at hb hj⟩) j hj).resolve_right (by omega)
 obtain ⟨n,hn,en,x0,x1,x2,x3⟩:=num_nat (ws:=ws) hv
 obtain ⟨m,hm,em,y0,y1,y2,y3⟩:=num_nat (ws:=bs) hv
 rw [num4,upW_at (by omega),upW_at (by omega),upW_at (by omega),upW_at (by omega),k 0 (by omega),k 1 (by omega),k 2 (by omega),k 3 (by omega),en,em,and_nat _ _ (by omega) (by omega),land16 n hn m hm,x0,x1,x2,x3,y0,y1,y2,y3]
 simp [gval]
theorem xor_sem (hB:∀ x∈B,Bit x) (h:gatesB 0 gs=true) (hw:wordB4 gs.length ws=true) (hb:wordB4 gs.length bs=true) :
  num B (bitTo gs 3 ws bs 4) (upW gs.length 4) 4=bits .xor .i64 (num B gs ws 4) (num B gs bs 4):=by
 have hv:=ev_bit hB h
 have k:=fun j (hj:j < 4)=>(bit_at (B:=B) (gs:=gs) (ws:=ws) (bs:=bs) (k:=3) 4 (fun j hj=>⟨word_at hw hj,word_at hb hj⟩) j hj).resolve_right (by omega)
 obtain ⟨n,hn,en,x0,x1,x2,x3⟩:=num_nat (ws:=ws) hv
 obtain ⟨m,hm,em,y0,y1,y2,y3⟩:=num_nat (ws:=bs) hv
 rw [num4,upW_at (by omega),upW_at (by omega),upW_at (by omega),upW_at (by omega),k 0 (by omega),k 1 (by omega),k 2 (by omega),k 3 (by omega),en,em,xor_nat _ _ (by omega) (by omega),lxor16 n hn m hm,x0,x1,x2,x3,y0,y1,y2,y3]
 simp [gval]
end
def opI (o a b:Int):Int :=
 if o=3 then (a + b) % 16 else if o=4 then (a - b) % 16 else if o=5 then a * b % 16 else if o=6 then bits .and .i64 a b else if o=7 then bits .xor .i64 a b
 else if o=8 then (if a < b then 1 else 0) else if a=b then 1 else 0
def inAt (ins:List (List Int)) (p n:Int):Int:=(ins.getD p.toNat []).getD n.toNat 0
structure Rs where
 r:List Int
 o:List Int
def valI (ins:List (List Int)) (r:List Int) (s:St):Int :=
 if s.o=1 then s.n else if s.o=2 then inAt ins s.a s.n
 else if s.o=10 then (if r.getD s.a.toNat 0 % 2=1 then r.getD s.b.toNat 0 else r.getD s.c.toNat 0)
 else opI s.o (r.getD s.a.toNat 0) (r.getD s.b.toNat 0)
def runS (ins:List (List Int)) (st:Rs) (s:St):Rs :=
 if s.o=11 then ⟨st.r,st.o ++ [st.r.getD s.a.toNat 0]⟩ else ⟨st.r.set s.d.toNat (valI ins st.r s),st.o⟩
def runL (ins:List (List Int)) (L:List St):Rs:=L.foldl (runS ins) ⟨[0,0,0,0,0,0,0,0],[]⟩
theorem runL_snoc (ins:List (List Int)) (L:List St) (s:St):runL ins (L ++ [s])=runS ins (runL ins L) s:=by simp [runL]
def bits4 (n:Int):List Int:=[n % 2,n / 2 % 2,n / 4 % 2,n / 8 % 2]
def inBits (ins:List (List Int)):List Int:=(ins.flatMap fun l=>l.flatMap bits4)
def insB (ins:List (List Int)):Bool:=decide (ins.length=5) && ins.all fun l=>decide (l.length=4) && l.all fun n=>inB n 0 15
def wordsL:List Int→List Int
 | a :: b :: c :: d :: r=>(a + 2 * b + 4 * c + 8 * d) :: wordsL r
 | _=>[]
theorem wordsL_app4 (a b c d:Int):∀ (k:Nat) (l:List Int),l.length=4 * k→wordsL (l ++ [a,b,c,d])=wordsL l ++ [a + 2 * b + 4 * c + 8 * d]
 | 0,l,h=>by
  have:l=[]:=List.eq_nil_of_length_eq_zero (by omega)
  subst this
  simp [wordsL]
 | k + 1,l,h=>by
  match l,h with
  | x :: y :: z :: u :: r,h =>
   have ih:=wordsL_app4 a b c d k r (by simp at h; omega)
   simp only [List.cons_append,wordsL,ih]
theorem list4 {l:List Int} (h:l.length=4):∃ a b c d,l=[a,b,c,d]:=by
 match l,h with
 | [a,b,c,d],_=>exact ⟨a,b,c,d,rfl⟩
theorem ins_parts {ins:List (List Int)} (h:insB ins=true):∃ a b c d e,ins=[a,b,c,d,e]∧∀ l∈ins,l.length=4∧∀ n∈l,0≤n∧n≤15:=by
 unfold insB at h
 rw [Bool.and_eq_true,decide_eq_true_eq] at h
 obtain ⟨h1,h2⟩:=h
 match ins,h1 with
 | [a,b,c,d,e],_ =>
  refine ⟨a,b,c,d,e,rfl,fun l hl=>?_⟩
  have:=List.all_eq_true.1 h2 l hl
  rw [Bool.and_eq_true,decide_eq_true_eq] at this
  exact ⟨this.1,fun n hn=>inB_iff.1 (List.all_eq_true.1 this.2 n hn)⟩
theorem inBits_bit {ins:List (List Int)}:∀ x∈inBits ins,Bit x:=by
 intro x hx
 unfold inBits at hx
 obtain ⟨l,_,hx⟩:=List.mem_flatMap.1 hx
 obtain ⟨n,_,hx⟩:=List.mem_flatMap.1 hx
 simp [bits4] at hx
 unfold Bit
 omega
theorem inBits_len {ins:List (List Int)} (h:insB ins=true):(inBits ins).length=80:=by
 obtain ⟨a,b,c,d,e,rfl,hl⟩:=ins_parts h
 have:=fun l hl'=>(hl l hl').1
 simp at this
 obtain ⟨ha,hb,hc,hd,he⟩:=this
 obtain ⟨a0,a1,a2,a3,rfl⟩:=list4 ha
 obtain ⟨b0,b1,b2,b3,rfl⟩:=list4 hb
 obtain ⟨c0,c1,c2,c3,rfl⟩:=list4 hc
 obtain ⟨d0,d1,d2,d3,rfl⟩:=list4 hd
 obtain ⟨e0,e1,e2,e3,rfl⟩:=list4 he
 rfl
theorem inBits_at {ins:List (List Int)} (h:insB ins=true) {p n:Int} (hp:0≤p∧p≤4) (hn:0≤n∧n≤3) :
  (inBits ins).getD ((p * 4 + n) * 4 + 0).toNat 0 + 2 * (inBits ins).getD ((p * 4 + n) * 4 + 1).toNat 0 + 4 * (inBits ins).getD ((p * 4 + n) * 4 + 2).toNat 0 + 8 * (inBits ins).getD ((p * 4 + n) * 4 + 3).toNat 0=inAt ins p n∧0≤inAt ins p n∧inAt ins p n≤15:=by
 obtain ⟨a,b,c,d,e,rfl,hl⟩:=ins_parts h
 have hr:=fun l hl'=>(hl l hl').2
 have:=fun l hl'=>(hl l hl').1
 clear hl
 simp at this
 obtain ⟨ha,hb,hc,hd,he⟩:=this
 obtain ⟨a0,a1,a2,a3,rfl⟩:=list4 ha
 obtain ⟨b0,b1,b2,b3,rfl⟩:=list4 hb
 obtain ⟨c0,c1,c2,c3,rfl⟩:=list4 hc
 obtain ⟨d0,d1,d2,d3,rfl⟩:=list4 hd
 obtain ⟨e0,e1,e2,e3,rfl⟩:=list4 he
 simp at hr
 have key:∀ x:Int,0≤x∧x≤15→(x % 2 + 2 * (x / 2 % 2) + 4 * (x / 4 % 2) + 8 * (x / 8 % 2)=x∧0≤x∧x≤15):=fun x hx=>⟨by omega,hx⟩
 obtain rfl | rfl | rfl | rfl | rfl:p=0∨p=1∨p=2∨p=3∨p=4:=by omega
 all_goals
  obtain rfl | rfl | rfl | rfl:n=0∨n=1∨n=2∨n=3:=by omega
  all_goals
   refine key _ ?_
   omega
theorem wordP_app (gs:List Gt) (rs:List (List Int)) (z:Int) (s:St):∃ l,(wordP gs rs z s).1=gs ++ l:=by
 unfold wordP
 split
 ·exact const_app _ _ _
 split
 ·exact in_app _ _ _ _
 split
 ·exact sumG_app _ _ _ _ _
 split
 ·obtain ⟨l,h⟩:=sumG_app (notsG gs (regL rs s.b)) (regL rs s.a) (upW gs.length 4) 1 3
  exact ⟨_,by rw [h,notsG,List.append_assoc]⟩
 split
 ·exact mul_app _ _ _ _
 split
 ·exact bit_app _ _ _ _ _
 split
 ·exact bit_app _ _ _ _ _
 split
 ·exact less_app _ _ _
 split
 ·exact eq_app _ _ _
 ·exact mux_app _ _ _ _ _
theorem num_one {B:List Int} {gs:List Gt} {x z:Int} (hx:V B gs z=0):num B gs [x,z,z,z] 4=V B gs x:=by
 rw [num4]
 show V B gs x + 2 * V B gs z + 4 * V B gs z + 8 * V B gs z=_
 rw [hx]
 omega
theorem wordP_sem {ins:List (List Int)} (hi:insB ins=true) {c:Cs} {k:Nat} (h:OkC c k) {r:List Int} (hz:V (inBits ins) c.g 0=0) (hr:∀ x:Int,0≤x∧x≤7→num (inBits ins) c.g (regL c.r x) 4=r.getD x.toNat 0) {s:St} (hs:Plain s) :
  num (inBits ins) (wordP c.g c.r 0 s).1 (wordP c.g c.r 0 s).2 4=valI ins r s:=by
 have hB:=inBits_bit (ins:=ins)
 obtain ⟨_,ha⟩:=h.reg hs.a
 obtain ⟨_,hb⟩:=h.reg hs.b
 obtain ⟨_,hc⟩:=h.reg hs.c
 have ra:=hr _ hs.a
 have rb:=hr _ hs.b
 have rc:=hr _ hs.c
 have hg:=h.g
 have hv:=ev_bit hB hg
 have hlo:=h.lo
 have hzw:wireB c.g.length 0=true:=wireB_iff.2 (by omega)
 unfold valI opI
 rw [←ra,←rb,←rc]
 unfold wordP
 generalize regL c.r s.a=x at ha ⊢
 generalize regL c.r s.b=y at hb ⊢
 generalize regL c.r s.c=z at hc ⊢
 by_cases h1:s.o=1
 ·rw [if_pos h1,if_pos h1]
  exact const_sem _ hs.n
 rw [if_neg h1,if_neg h1]
 by_cases h2:s.o=2
 ·rw [if_pos h2,if_pos h2]
  have h3:=hs.inp h2
  have h0:=hs.a
  have hn:=hs.n
  show num _ (inTo c.g s.a s.n 4) (upW c.g.length 4) 4=_
  rw [in_sem]
  exact (inBits_at hi (by omega) (by omega)).1
 rw [if_neg h2,if_neg h2]
 by_cases h3:s.o=3
 ·rw [if_pos h3,if_neg (by omega),if_pos h3]
  have e:=sumG_sem (first:=0) hB hg (.inl rfl) 3 fun j hj=>⟨word_at ha (j:=j) (by omega),word_at hb (j:=j) (by omega)⟩
  rw [Int.zero_add] at e
  exact e
 rw [if_neg h3]
 by_cases h4:s.o=4
 ·rw [if_pos h4,if_neg (by omega),if_neg h3,if_pos h4]
  exact sub_sem hB hg ha hb
 rw [if_neg h4]
 by_cases h5:s.o=5
 ·rw [if_pos h5,if_neg (by omega),if_neg h3,if_neg h4,if_pos h5]
  exact mul_sem hB hg ha hb 3 (Nat.le_refl _)
 rw [if_neg h5]
 by_cases h6:s.o=6
 ·rw [if_pos h6,if_neg (by omega),if_neg h3,if_neg h4,if_neg h5,if_pos h6]
  exact and_sem hB hg ha hb
 rw [if_neg h6]
 by_cases h7:s.o=7
 ·rw [if_pos h7,if_neg (by omega),if_neg h3,if_neg h4,if_neg h5,if_neg h6,if_pos h7]
  exact xor_sem hB hg ha hb
 rw [if_neg h7]
 by_cases h8:s.o=8
 ·rw [if_pos h8,if_neg (by omega),if_neg h3,if_neg h4,if_neg h5,if_neg h6,if_neg h7,if_pos h8]
  obtain ⟨l,e⟩:=less_app c.g x y
  show num _ (lessG c.g x y) _ 4=_
  rw [num_one (by rw [e,V_app hzw]; exact hz),less_sem hB hg ha hb]
 rw [if_neg h8]
 by_cases h9:s.o=9
 ·rw [if_pos h9,if_neg (by omega),if_neg h3,if_neg h4,if_neg h5,if_neg h6,if_neg h7,if_neg h8]
  obtain ⟨l,e⟩:=eq_app c.g x y
  show num _ (eqG c.g x y) _ 4=_
  rw [num_one (by rw [e,V_app hzw]; exact hz),eq_sem hB hg ha hb]
 have h10:s.o=10:=by have:=hs.op; omega
 rw [if_neg h9,if_pos h10]
 show num _ (muxTo c.g (x.getD 0 0) y z 4) (muxW c.g.length 4) 4=_
 rw [mux_sem hB hg (word_at ha (by omega)) hb hc]
 have hx:=num4 (inBits ins) c.g x
 have v0:=hv (x.getD 0 0)
 have e:(V (inBits ins) c.g (x.getD 0 0)=1)=(num (inBits ins) c.g x 4 % 2=1):=by
  refine propext ?_
  rw [hx]
  unfold Bit at v0
  omega
 simp only [e]
structure SemC (ins:List (List Int)) (c:Cs) (st:Rs):Prop where
 z:V (inBits ins) c.g 0=0
 l:st.r.length=8
 r:∀ x:Int,0≤x∧x≤7→num (inBits ins) c.g (regL c.r x) 4=st.r.getD x.toNat 0
 o:wordsL (c.o.map (V (inBits ins) c.g))=st.o
 ol:∃ m,c.o.length=4 * m
theorem sem_step {ins:List (List Int)} (hi:insB ins=true) {c:Cs} {k:Nat} (h:OkC c k) {st:Rs} (hc:SemC ins c st) {s:St} (hs:stmtB s=true) (h12:s.o≠12) (h13:s.o≠13):SemC ins (stepC c s) (runS ins st s):=by
 have hin:=stmt_in hs
 unfold stepC runS
 by_cases h11:s.o=11
 ·rw [if_pos h11,if_pos h11]
  obtain ⟨_,ha⟩:=h.reg hin.2.2.1
  have hr:=hc.r _ hin.2.2.1
  obtain ⟨m,hm⟩:=hc.ol
  refine ⟨hc.z,hc.l,hc.r,?_,⟨m + 1,by show (c.o ++ _).length=_; rw [List.length_append,word_len ha]; omega⟩⟩
  obtain ⟨x,y,z,u,e,_⟩:=word4 ha
  show wordsL ((c.o ++ regL c.r s.a).map _)=st.o ++ [_]
  rw [←hr,e,List.map_append,num4]
  show wordsL (_ ++ [_,_,_,_])=_
  rw [wordsL_app4 _ _ _ _ m _ (by rw [List.length_map,hm]),hc.o]
  rfl
 ·rw [if_neg h11,if_neg h11]
  have hp:=stmt_plain hs h11 h12 h13
  have hw:=wordP_sem hi h hc.z hc.r hp
  obtain ⟨l,e⟩:=wordP_app c.g c.r 0 s
  have hlo:=h.lo
  have hl:=hc.l
  have hd:=hp.d
  have hcr:=h.r
  refine ⟨by show V _ (wordP c.g c.r 0 s).1 0=0; rw [e,V_app (wireB_iff.2 (by omega))]; exact hc.z,by show (st.r.set _ _).length=8; rw [List.length_set,hl],fun x hx=>?_,?_,hc.ol⟩
  ·show num _ (wordP c.g c.r 0 s).1 (regL (c.r.set s.d.toNat (wordP c.g c.r 0 s).2) x) 4=(st.r.set s.d.toNat _).getD x.toNat 0
   have e1:regL (c.r.set s.d.toNat (wordP c.g c.r 0 s).2) x=if s.d.toNat=x.toNat then (wordP c.g c.r 0 s).2 else regL c.r x:=by
    unfold regL
    rw [List.getD_eq_getElem?_getD,List.getElem?_set,List.getD_eq_getElem?_getD]
    split
    ·rw [if_pos (by omega)]; rfl
    ·rfl
   have e2:(st.r.set s.d.toNat (valI ins st.r s)).getD x.toNat 0=if s.d.toNat=x.toNat then valI ins st.r s else st.r.getD x.toNat 0:=by
    rw [List.getD_eq_getElem?_getD,List.getElem?_set,List.getD_eq_getElem?_getD]
    split
    ·rw [if_pos (by omega)]; rfl
    ·rfl
   rw [e1,e2]
   split
   ·exact hw
   ·rw [e,num_app l fun j hj=>word_at (h.reg hx).2 hj]
    exact hc.r x hx
  ·rw [←hc.o]
   show wordsL (c.o.map (V _ (wordP c.g c.r 0 s).1))=_
   congr 1
   refine List.map_congr_left fun w hw=>?_
   rw [e]
   exact V_app (List.all_eq_true.1 h.o w hw) l
theorem sem0 {ins:List (List Int)}:SemC ins cs0 ⟨[0,0,0,0,0,0,0,0],[]⟩:=by
 have hz:∀ w:Int,V (inBits ins) cs0.g w=0:=fun w=>by
  have e:ev (inBits ins) cs0.g=[0,0,0,0]:=rfl
  unfold V
  rw [e,List.getD_eq_getElem?_getD]
  generalize w.toNat=n
  match n with
  | 0=>rfl
  | 1=>rfl
  | 2=>rfl
  | 3=>rfl
  | n + 4=>rfl
 refine ⟨hz 0,rfl,fun x hx=>?_,rfl,⟨0,rfl⟩⟩
 rw [num4,hz,hz,hz,hz]
 obtain rfl | rfl | rfl | rfl | rfl | rfl | rfl | rfl:x=0∨x=1∨x=2∨x=3∨x=4∨x=5∨x=6∨x=7:=by omega
 all_goals rfl
theorem sem_take {ins:List (List Int)} (hi:insB ins=true) {L:List St} (hL:∀ s∈L,stmtB s=true∧s.o≠12∧s.o≠13):∀ k,k≤L.length→SemC ins (compC (L.take k)) (runL ins (L.take k))
 | 0,_=>sem0
 | k + 1,h=>by
  have hk:k < L.length:=by omega
  rw [List.take_succ_eq_append_getElem hk,compC_snoc,runL_snoc]
  obtain ⟨h1,h2,h3⟩:=hL L[k] (List.getElem_mem hk)
  exact sem_step hi (ok_take hL k (by omega)) (sem_take hi hL k (by omega)) h1 h2 h3
theorem comp_sem {ins:List (List Int)} (hi:insB ins=true) (L:List St):SemC ins (compC (unrL L)) (runL ins (unrL L)):=by
 have h:=sem_take hi (unrL_ok L) (unrL L).length (Nat.le_refl _)
 rwa [List.take_length] at h
open Go.RowKit
def Row (w:World) (g e size n c:Nat) (xs:List Value):Prop:=w.ownsRow 0 e size (.slice (some ⟨g,0,none⟩) n c) n xs
section
variable {w w':World} {g e size n c:Nat} {xs:List Value}
theorem Row.parts (h:Row w g e size n c xs):xs.length=n * size∧∃ cur,w.heap[g]? = some (.cells cur e (0,0))∧n≤c∧c≤maxLen∧cur.size=c * size∧cur.toList.take (n * size)=xs:=by
 refine ⟨h.1,?_⟩
 rcases h.2 with ⟨hv,_⟩ | ⟨g',cap,cur,hv,_,h1,h2,h3,h4,h5⟩
 ·cases hv
 ·injection hv with e1 _ e3
  injection e1 with e1
  injection e1 with e1
  subst e1 e3
  exact ⟨cur,h1,h2,h3,h4,h5⟩
theorem Row.lt (h:Row w g e size n c xs):g < w.heap.size:=(World.ownsRow.lt h g rfl).2
theorem Row.cap (h:Row w g e size n c xs):n≤c:=by
 obtain ⟨_,_,_,h,_⟩:=h.parts
 exact h
theorem Row.len (h:Row w g e size n c xs):xs.length=n * size:=h.1
theorem Row.below (h:Row w g e size n c xs) (hb:Below w.heap.size w w'):Row w' g e size n c xs:=own_below h hb
theorem Row.grown {q:Nat} (h:Row w g e size n c xs) (hg:w.grownBy w' (some q)) (hne:g≠q):Row w' g e size n c xs :=
 gr_own hg h fun a b ha hb=>by
  injection ha with ha
  have:some g=some b:=hb
  injection this with this
  omega
theorem Row.alloc (h:Row w g e size n c xs) (o:Obj):Row (w.alloc o) g e size n c xs:=World.ownsRow.alloc h o
theorem Row.cells (h:Row w g e size n c xs):Cells w w.heap.size (some ⟨g,0,none⟩) xs:=Cells.of_own h
theorem Row.cell (h:Row w g e size n c xs) {k:Nat} {v:Value} (hk:xs[k]? = some v):w.cell? ⟨g,k,none⟩=some v:=by
 obtain ⟨b,off,e,_,hc⟩:=h.cells (by have:=(List.getElem?_eq_some_iff.1 hk).1; omega)
 injection e with e
 injection e with e1 e2
 subst e1 e2
 have:=hc k v hk
 rwa [Nat.zero_add] at this
theorem Row.new (cs:Array Value) (hn:n≤maxLen) (hs:cs.size=n * size) (hg:g=w.heap.size):Row (w.alloc (.cells cs e)) g e size n n cs.toList:=by
 subst hg
 exact own_lit cs n rfl (Nat.zero_le _) hn hs
theorem Row.own {base:Nat} (h:Row w g e size n c xs) (hb:base≤g):w.ownsRow base e size (.slice (some ⟨g,0,none⟩) n c) n xs:=by
 obtain ⟨h0,cur,h1,h2,h3,h4,h5⟩:=h.parts
 exact ⟨h0,.inr ⟨g,c,cur,rfl,hb,h1,h2,h3,h4,h5⟩⟩
end
theorem wpList_apps {P:Program} {w:World} {ops:Array Oper} {rest:List Oper} {o:Oper} {a:Act} {Q:Exit→Act→World→Prop} (hgd:o.guard=none) (s x:Operand) (t:TypeId)
  (ho:o.op=.call { callee:=.builtin .append,args:=#[s,x],argTypes:=#[t,t] })
  (e:Nat) (z:Value) (size bytes:Nat) (ht:P.underlying t=some (.slice e)) (hinfo:(P.info? e).map (fun i=>(i.zero,i.size,i.bytes))=some (some z,size,bytes)) (hzs:z.cells.size=size) (hsz:0 < size)
  {g n c:Nat} {xs:List Value} (hs:a.eval s=.slice (some ⟨g,0,none⟩) n c) (hown:Row w g e size n c xs)
  (ad:Addr) (m k:Nat) (news:List Value) (hx:a.eval x=.slice (some ad) m k) (hl:news.length=m * size) (hnews:∀ j u,news[j]? = some u→w.cell? (ad.add j)=some u) (h1:∀ u∈news,u.oneCell'=true)
  (hbound:n + m≤1000000000) (hbytes:bytes≤1000)
  (h:∀ g' c' w',Row w' g' e size (n + m) c' (xs ++ news)→w.grownBy w' (some g)→(g'=g∨g'=w.heap.size)→wpList P ops Q rest (a.put o.dst (.slice (some ⟨g',0,none⟩) (n + m) c')) w'):wpList P ops Q (o :: rest) a w:=by
 obtain ⟨i,hi,hz0,hz1,hz2⟩:=info_parts hinfo
 have hmul:(n + m) * bytes≤1000000000 * 1000:=Nat.mul_le_mul hbound hbytes
 refine wpList_append_own_at w hgd s x t ho 0 e i z size bytes ht hi hz0 hz1 hz2 hzs hsz _ n xs hs hown ad m k news hx hl hnews h1 (by unfold maxLen; omega) (by omega) (Nat.zero_le _) ?_
 intro v' w' hown' hg' hnil hbl
 rcases hown'.2 with ⟨hv,_⟩ | ⟨g',cap,cur,hv,_⟩
 ·exact absurd (hnil.1 hv).1 (by simp)
 ·subst hv
  refine h g' cap w' hown' hg' ?_
  rcases hbl with hb | hb
  ·have hb:some g'=some g:=hb
   injection hb with hb
   exact .inl hb
  ·have hb:some g'=some w.heap.size:=hb
   injection hb with hb
   exact .inr hb
theorem below_apps {B:Nat} {w0 w w':World} {g:Nat} (h:Below B w0 w) (hg:w.grownBy w' (some g)) (h1:B≤w.heap.size) (h2:B≤g):Below B w0 w' :=
 gr_below hg h h1 fun q hq=>by injection hq with hq; omega
theorem cells_add {w:World} {b off:Nat} {xs:List Value} (hc:∀ i v,xs[i]? = some v→w.cell? ⟨b,off + i,none⟩=some v):∀ j u,xs[j]? = some u→w.cell? ((⟨b,off,none⟩:Addr).add j)=some u:=fun j u hu=>by
 have e:(⟨b,off,none⟩:Addr).add j=⟨b,off + j,none⟩:=by simp [Addr.add]
 rw [e]
 exact hc j u hu
theorem ints_app (xs ys:List Int):ints (xs ++ ys)=ints xs ++ ints ys:=List.map_append
theorem infoSt:(Tryz.prog.info? 73).map (fun i=>(i.zero,i.size,i.bytes))=some (some (.agg #[.int .i64 0,.int .i64 0,.int .i64 0,.int .i64 0,.int .i64 0,.int .i64 0]),6,48):=by kernel_rfl
theorem infoGt:(Tryz.prog.info? 96).map (fun i=>(i.zero,i.size,i.bytes))=some (some (.agg #[.int .i64 0,.int .i64 0,.int .i64 0]),3,24):=by kernel_rfl
theorem infoI:(Tryz.prog.info? 3).map (fun i=>(i.zero,i.size,i.bytes))=some (some (.int .i64 0),1,8):=by kernel_rfl
abbrev RowS (w:World) (g n c:Nat) (L:List St):Prop:=Row w g 73 6 n c (ints (flatS L))
abbrev RowI (w:World) (g n c:Nat) (L:List Int):Prop:=Row w g 3 1 n c (ints L)
section
variable {w:World} {ops:Array Oper} {rest:List Oper} {o:Oper} {a:Act} {Q:Exit→Act→World→Prop}
theorem app_st (hgd:o.guard=none) (s x:Operand) (ho:o.op=.call { callee:=.builtin .append,args:=#[s,x],argTypes:=#[24,24] })
  {g n c:Nat} {L:List St} (hs:a.eval s=.slice (some ⟨g,0,none⟩) n c) (hown:RowS w g n c L) {b off m k:Nat} (M:List St) (hx:a.eval x=.slice (some ⟨b,off,none⟩) m k) (hl:M.length=m)
  (hc:∀ j u,(ints (flatS M))[j]? = some u→w.cell? ⟨b,off + j,none⟩=some u) (hb:n + m≤1000000)
  (h:∀ g' c' w',RowS w' g' (n + m) c' (L ++ M)→w.grownBy w' (some g)→(g'=g∨g'=w.heap.size)→wpList Tryz.prog ops Q rest (a.put o.dst (.slice (some ⟨g',0,none⟩) (n + m) c')) w'):wpList Tryz.prog ops Q (o :: rest) a w :=
 wpList_apps hgd s x _ ho _ _ 6 48 Tryz.underlying24 infoSt rfl (by decide) hs hown ⟨b,off,none⟩ m k (ints (flatS M)) hx (by rw [ints_length,flatS_length,hl]) (cells_add hc) (ints_one _) (by omega) (by decide)
  fun g' c' w' h1 h2 h3=>h g' c' w' (by show Row _ _ _ _ _ _ _; rw [flatS_append,ints_app]; exact h1) h2 h3
theorem app_int (hgd:o.guard=none) (s x:Operand) (ho:o.op=.call { callee:=.builtin .append,args:=#[s,x],argTypes:=#[30,30] })
  {g n c:Nat} {L:List Int} (hs:a.eval s=.slice (some ⟨g,0,none⟩) n c) (hown:RowI w g n c L) {b off m k:Nat} (M:List Int) (hx:a.eval x=.slice (some ⟨b,off,none⟩) m k) (hl:M.length=m)
  (hc:∀ j u,(ints M)[j]? = some u→w.cell? ⟨b,off + j,none⟩=some u) (hb:n + m≤1000000)
  (h:∀ g' c' w',RowI w' g' (n + m) c' (L ++ M)→w.grownBy w' (some g)→(g'=g∨g'=w.heap.size)→wpList Tryz.prog ops Q rest (a.put o.dst (.slice (some ⟨g',0,none⟩) (n + m) c')) w'):wpList Tryz.prog ops Q (o :: rest) a w :=
 wpList_apps hgd s x _ ho _ _ 1 8 Tryz.underlying30 infoI rfl (by decide) hs hown ⟨b,off,none⟩ m k (ints M) hx (by rw [ints_length,hl,Nat.mul_one]) (cells_add hc) (ints_one _) (by omega) (by decide)
  fun g' c' w' h1 h2 h3=>h g' c' w' (by show Row _ _ _ _ _ _ _; rw [ints_app]; exact h1) h2 h3
end
theorem top_cells (w:World) (cs:List Value) (t:TypeId):∀ (j:Nat) (u:Value),cs[j]? = some u→(w.alloc (.cells cs.toArray t)).cell? ⟨w.heap.size,0 + j,none⟩=some u:=fun j u hu=>by
 have hb:Blk (w.alloc (.cells cs.toArray t)) w.heap.size t cs.toArray:=Blk.new rfl
 rw [Nat.zero_add,hb.cell j]
 simpa using hu
theorem row_cells {w:World} {g e size n c:Nat} {xs:List Value} (h:Row w g e size n c xs):∀ (j:Nat) (u:Value),xs[j]? = some u→w.cell? ⟨g,0 + j,none⟩=some u:=fun j u hu=>by
 rw [Nat.zero_add]
 exact h.cell hu
end Go.Proofs.YtihbaieiempjeaaGreat
