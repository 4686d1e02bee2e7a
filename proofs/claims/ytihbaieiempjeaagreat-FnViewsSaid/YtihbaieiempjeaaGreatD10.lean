/- Lemmas of the proof: Comp, MulI, Regs. -/
import Derived.Test.YtihbaieiempjeaaGreatD1
import Derived.Test.YtihbaieiempjeaaGreatD4
import Derived.Test.YtihbaieiempjeaaGreatD0
import Derived.Test.YtihbaieiempjeaaGreatD9
namespace Go.Proofs.YtihbaieiempjeaaGreat
open Go.RowKit
def regL (rs:List (List Int)) (k:Int):List Int:=rs.getD k.toNat []
def wordP (gs:List Gt) (rs:List (List Int)) (z:Int) (s:St):List Gt × List Int :=
 if s.o=1 then (constTo gs s.n 4,upW gs.length 4)
 else if s.o=2 then (inTo gs s.a s.n 4,upW gs.length 4)
 else if s.o=3 then (sumG gs (regL rs s.a) (regL rs s.b) 0 3,sumW gs.length 3)
 else if s.o=4 then (sumG (notsG gs (regL rs s.b)) (regL rs s.a) (upW gs.length 4) 1 3,sumW (gs.length + 4) 3)
 else if s.o=5 then mulTo gs (regL rs s.a) (regL rs s.b) 3
 else if s.o=6 then (bitTo gs 4 (regL rs s.a) (regL rs s.b) 4,upW gs.length 4)
 else if s.o=7 then (bitTo gs 3 (regL rs s.a) (regL rs s.b) 4,upW gs.length 4)
 else if s.o=8 then (lessG gs (regL rs s.a) (regL rs s.b),[((gs.length + 25:Nat):Int),z,z,z])
 else if s.o=9 then (eqG gs (regL rs s.a) (regL rs s.b),[((gs.length + 10:Nat):Int),z,z,z])
 else (muxTo gs ((regL rs s.a).getD 0 0) (regL rs s.b) (regL rs s.c) 4,muxW gs.length 4)
structure Cs where
 g:List Gt
 r:List (List Int)
 o:List Int
def stepC (c:Cs) (s:St):Cs :=
 if s.o=11 then ⟨c.g,c.r,c.o ++ regL c.r s.a⟩
 else ⟨(wordP c.g c.r 0 s).1,c.r.set s.d.toNat (wordP c.g c.r 0 s).2,c.o⟩
def cs0:Cs:=⟨constTo [] 0 4,[upW 0 4,upW 0 4,upW 0 4,upW 0 4,upW 0 4,upW 0 4,upW 0 4,upW 0 4],[]⟩
def compC (L:List St):Cs:=L.foldl stepC cs0
theorem compC_snoc (L:List St) (s:St):compC (L ++ [s])=stepC (compC L) s:=by simp [compC]
theorem word_at {n:Nat} {ws:List Int} (h:wordB4 n ws=true) {j:Nat} (hj:j < 4):wireB n (ws.getD j 0)=true:=by
 obtain ⟨a,b,c,d,rfl,h1,h2,h3,h4⟩:=word4 h
 obtain rfl | rfl | rfl | rfl:j=0∨j=1∨j=2∨j=3:=by omega
 all_goals first | exact h1 | exact h2 | exact h3 | exact h4
theorem word_len {n:Nat} {ws:List Int} (h:wordB4 n ws=true):ws.length=4:=by
 obtain ⟨a,b,c,d,rfl,_⟩:=word4 h
 rfl
theorem word_mem {n:Nat} {ws:List Int} (h:wordB4 n ws=true):∀ x∈ws,wireB n x=true:=by
 unfold wordB4 at h
 rw [Bool.and_eq_true] at h
 exact fun x hx=>List.all_eq_true.1 h.2 x hx
theorem upW4 (n:Nat):upW n 4=[((n:Nat):Int),((n + 1:Nat):Int),((n + 2:Nat):Int),((n + 3:Nat):Int)]:=rfl
theorem upW_word {n m:Nat} (h:n + 4≤m):wordB4 m (upW n 4)=true:=by
 rw [upW4]
 exact word4_mk (wire_at (by omega)) (wire_at (by omega)) (wire_at (by omega)) (wire_at (by omega))
theorem sumW3 (n:Nat):sumW n 3=[((n + 3:Nat):Int),((n + 8:Nat):Int),((n + 13:Nat):Int),((n + 17:Nat):Int)]:=rfl
theorem sumW_word {n m:Nat} (h:n + 18≤m):wordB4 m (sumW n 3)=true:=by
 rw [sumW3]
 exact word4_mk (wire_at (by omega)) (wire_at (by omega)) (wire_at (by omega)) (wire_at (by omega))
theorem muxW_word {n m:Nat} (h:n + 12≤m):wordB4 m (muxW n 4)=true:=by
 show wordB4 m [((n + 2:Nat):Int),((n + 5:Nat):Int),((n + 8:Nat):Int),((n + 11:Nat):Int)]=true
 exact word4_mk (wire_at (by omega)) (wire_at (by omega)) (wire_at (by omega)) (wire_at (by omega))
theorem constTo_ok {gs:List Gt} (n:Int) (h:gatesB 0 gs=true):∀ i,gatesB 0 (constTo gs n i)=true
 | 0=>h
 | i + 1=>gatesB_snoc (constTo_ok n h i) (gate2 (by omega))
theorem gate1 {a:Int} {n:Nat} (ha:0≤a∧a≤79):gateB ⟨1,a,0⟩ n=true:=by
 unfold gateB
 dsimp only
 rw [if_pos rfl,inB_iff.2 (by omega)]
 rfl
theorem inTo_ok {gs:List Gt} {p n:Int} (h:gatesB 0 gs=true) (hp:0≤p∧p≤4) (hn:0≤n∧n≤3):∀ i,i≤4→gatesB 0 (inTo gs p n i)=true
 | 0,_=>h
 | i + 1,hi=>gatesB_snoc (inTo_ok h hp hn i (by omega)) (gate1 (by omega))
theorem andsTo_ok {gs:List Gt} {x:Int} {ws:List Int} (h:gatesB 0 gs=true) (hx:wireB gs.length x=true):∀ k,(∀ j,j < k→wireB gs.length (ws.getD j 0)=true)→gatesB 0 (andsTo gs x ws k)=true
 | 0,_=>h
 | k + 1,hw=>by
  have hl:=andsTo_length gs x ws k
  exact gatesB_snoc (andsTo_ok h hx k fun j hj=>hw j (by omega)) (gate3 (.inr rfl) (wireB_mono hx (by omega)) (wireB_mono (hw k (by omega)) (by omega)))
theorem bitTo_ok {gs:List Gt} {q:Int} {ws bs:List Int} (hq:q=3∨q=4) (h:gatesB 0 gs=true):∀ k,(∀ j,j < k→wireB gs.length (ws.getD j 0)=true∧wireB gs.length (bs.getD j 0)=true)→gatesB 0 (bitTo gs q ws bs k)=true
 | 0,_=>h
 | k + 1,hw=>by
  have hl:=bitTo_length gs q ws bs k
  have h1:=hw k (by omega)
  exact gatesB_snoc (bitTo_ok hq h k fun j hj=>hw j (by omega)) (gate3 hq (wireB_mono h1.1 (by omega)) (wireB_mono h1.2 (by omega)))
theorem eqTo_ok {gs:List Gt} {ws bs:List Int} (h:gatesB 0 gs=true):∀ k,(∀ j,j < k→wireB gs.length (ws.getD j 0)=true∧wireB gs.length (bs.getD j 0)=true)→gatesB 0 (eqTo gs ws bs k)=true
 | 0,_=>h
 | k + 1,hw=>by
  have hl:=eqTo_length gs ws bs k
  have h1:=hw k (by omega)
  unfold eqTo
  rw [gatesB_append,eqTo_ok h k fun j hj=>hw j (by omega)]
  simp only [gatesB,Bool.true_and,Bool.and_true,Bool.and_eq_true,Nat.zero_add]
  exact ⟨gate3 (.inl rfl) (wireB_mono h1.1 (by omega)) (wireB_mono h1.2 (by omega)),gate5 (wire_at (by omega))⟩
theorem eqG_length (gs:List Gt) (ws bs:List Int):(eqG gs ws bs).length=gs.length + 11:=by simp [eqG,eqTo_length]
theorem eqG_ok {gs:List Gt} {ws bs:List Int} (h:gatesB 0 gs=true) (hw:∀ j,j < 4→wireB gs.length (ws.getD j 0)=true∧wireB gs.length (bs.getD j 0)=true):gatesB 0 (eqG gs ws bs)=true:=by
 have hl:=eqTo_length gs ws bs 4
 unfold eqG
 rw [gatesB_append,eqTo_ok h 4 hw]
 simp only [gatesB,Bool.true_and,Bool.and_true,Bool.and_eq_true,Nat.zero_add]
 exact ⟨gate3 (.inr rfl) (wire_at (by omega)) (wire_at (by omega)),gate3 (.inr rfl) (wire_at (by omega)) (wire_at (by omega)),gate3 (.inr rfl) (wire_at (by omega)) (wire_at (by omega))⟩
theorem muxTo_ok {gs:List Gt} {s:Int} {ws bs:List Int} (h:gatesB 0 gs=true) (hs:wireB gs.length s=true):∀ k,(∀ j,j < k→wireB gs.length (ws.getD j 0)=true∧wireB gs.length (bs.getD j 0)=true)→gatesB 0 (muxTo gs s ws bs k)=true
 | 0,_=>h
 | k + 1,hw=>by
  have hl:=muxTo_length gs s ws bs k
  have h1:=hw k (by omega)
  unfold muxTo
  rw [gatesB_append,muxTo_ok h hs k fun j hj=>hw j (by omega)]
  simp only [gatesB,Bool.true_and,Bool.and_true,Bool.and_eq_true,Nat.zero_add]
  exact ⟨gate3 (.inl rfl) (wireB_mono h1.1 (by omega)) (wireB_mono h1.2 (by omega)),gate3 (.inr rfl) (wireB_mono hs (by omega)) (wire_at (by omega)),gate3 (.inl rfl) (wire_at (by omega)) (wireB_mono h1.2 (by omega))⟩
theorem upW_wire {n k m j:Nat} (hj:j < k) (h:n + k≤m):wireB m ((upW n k).getD j 0)=true:=by
 induction k with
 | zero=>omega
 | succ k ih =>
  rw [upW,List.getD_eq_getElem?_getD]
  by_cases hk:j=k
  ·subst hk
   rw [List.getElem?_append_right (by rw [upW_length]; omega),upW_length,Nat.sub_self]
   exact wire_at (by omega)
  ·rw [List.getElem?_append_left (by rw [upW_length]; omega),←List.getD_eq_getElem?_getD]
   exact ih (by omega) (by omega)
theorem lessG_ok {gs:List Gt} {ws bs:List Int} (h:gatesB 0 gs=true) (hw:wordB4 gs.length ws=true) (hb:wordB4 gs.length bs=true):gatesB 0 (lessG gs ws bs)=true:=by
 have hl:=notsG_length gs bs
 have hb4:=word_len hb
 have hs:=sumTo_length (notsG gs bs) ws (upW gs.length 4) 1 4
 refine gatesB_snoc (sumTo_ok (nots_ok h (word_mem hb)) (.inr rfl) 4 fun j hj=>⟨wireB_mono (word_at hw hj) (by omega),?_⟩) (gate5 (wire_at (by omega)))
 exact upW_wire hj (by omega)
theorem drop_getD (l:List Int) (k j:Nat):(l.drop k).getD j 0=l.getD (k + j) 0:=by
 rw [List.getD_eq_getElem?_getD,List.getElem?_drop,←List.getD_eq_getElem?_getD]
theorem lessG_len (gs:List Gt) (ws bs:List Int):(lessG gs ws bs).length=gs.length + bs.length + 22:=by simp [lessG,sumTo_length,notsG_length]
theorem mulTo_ok {gs:List Gt} {ws bs:List Int} (h:gatesB 0 gs=true) (hw:wordB4 gs.length ws=true) (hb:wordB4 gs.length bs=true) :
  ∀ i,i≤3→gatesB 0 (mulTo gs ws bs i).1=true∧wordB4 (mulTo gs ws bs i).1.length (mulTo gs ws bs i).2=true∧gs.length≤(mulTo gs ws bs i).1.length
 | 0,_=>by
  have hl:=andsTo_length gs (bs.getD 0 0) ws 4
  exact ⟨andsTo_ok h (word_at hb (by omega)) 4 fun j hj=>word_at hw hj,upW_word (by show _≤(andsTo gs (bs.getD 0 0) ws 4).length; omega),by show _≤(andsTo gs (bs.getD 0 0) ws 4).length; omega⟩
 | i + 1,hi=>by
  obtain ⟨h1,h2,h3⟩:=mulTo_ok h hw hb i (by omega)
  simp only [mulTo]
  generalize (mulTo gs ws bs i).1=gs0 at h1 h2 h3 ⊢
  generalize (mulTo gs ws bs i).2=ws0 at h2 ⊢
  have hl:=andsTo_length gs0 (bs.getD (i + 1) 0) ws (3 - i)
  have hs:=sumG_length (andsTo gs0 (bs.getD (i + 1) 0) ws (3 - i)) (ws0.drop (i + 1)) (upW gs0.length (3 - i)) 0 (2 - i)
  obtain ⟨a,b,c,d,rfl,g1,g2,g3,g4⟩:=word4 h2
  refine ⟨sumG_ok (andsTo_ok h1 (wireB_mono (word_at hb (by omega)) h3) _ fun j hj=>wireB_mono (word_at hw (by omega)) h3) (.inl rfl) fun j hj=>⟨?_,?_⟩,?_,by omega⟩
  ·rw [drop_getD]
   exact wireB_mono (word_at h2 (by omega)) (by omega)
  ·exact upW_wire (by omega) (by omega)
  ·obtain rfl | rfl | rfl:i=0∨i=1∨i=2:=by omega
   all_goals simp only [sumW,sumWs,List.take,List.cons_append,List.nil_append]
   all_goals refine word4_mk ?_ ?_ ?_ ?_
   all_goals first | exact wireB_mono g1 (by omega) | exact wireB_mono g2 (by omega) | exact wireB_mono g3 (by omega) | exact wireB_mono g4 (by omega) | exact wire_at (by omega)
theorem mulTo_len3 (gs:List Gt) (ws bs:List Int):(mulTo gs ws bs 3).1.length=gs.length + 34:=by
 simp [mulTo,sumG_length,andsTo_length]
structure Plain (s:St):Prop where
 op:1≤s.o∧s.o≤10
 d:0≤s.d∧s.d≤7
 a:0≤s.a∧s.a≤7
 b:0≤s.b∧s.b≤7
 c:0≤s.c∧s.c≤7
 n:0≤s.n∧s.n≤15
 inp:s.o=2→s.a≤4∧s.n≤3
theorem stmt_plain {s:St} (h:stmtB s=true) (h11:s.o≠11) (h12:s.o≠12) (h13:s.o≠13):Plain s:=by
 have hi:=stmt_in h
 refine ⟨by omega,hi.2.1,hi.2.2.1,hi.2.2.2.1,hi.2.2.2.2.1,hi.2.2.2.2.2,fun h2=>?_⟩
 unfold stmtB at h
 rw [if_neg (by omega),if_pos h2] at h
 simp only [Bool.and_eq_true,inB_iff] at h
 omega
structure OkC (c:Cs) (k:Nat):Prop where
 g:gatesB 0 c.g=true
 lo:4≤c.g.length
 hi:c.g.length≤4 + 34 * k
 r:c.r.length=8
 w:∀ ws∈c.r,wordB4 c.g.length ws=true
 o:outsB c.g.length c.o=true
 oh:c.o.length≤4 * k
theorem OkC.reg {c:Cs} {k:Nat} (h:OkC c k) {x:Int} (hx:0≤x∧x≤7):c.r[x.toNat]? = some (regL c.r x)∧wordB4 c.g.length (regL c.r x)=true:=by
 have hr:=h.r
 have hl:x.toNat < c.r.length:=by omega
 have e:c.r[x.toNat]? = some (regL c.r x):=by
  unfold regL
  rw [List.getD_eq_getElem?_getD,List.getElem?_eq_getElem hl]
  rfl
 exact ⟨e,h.w _ (List.mem_of_getElem? e)⟩
theorem ok0:OkC cs0 0:=⟨rfl,by decide,by decide,rfl,by decide,rfl,by decide⟩
theorem wordP_ok {c:Cs} {k:Nat} (h:OkC c k) {s:St} (hs:Plain s) :
  gatesB 0 (wordP c.g c.r 0 s).1=true∧wordB4 (wordP c.g c.r 0 s).1.length (wordP c.g c.r 0 s).2=true∧c.g.length≤(wordP c.g c.r 0 s).1.length∧(wordP c.g c.r 0 s).1.length≤c.g.length + 34:=by
 obtain ⟨_,ha⟩:=h.reg hs.a
 obtain ⟨_,hb⟩:=h.reg hs.b
 obtain ⟨_,hc⟩:=h.reg hs.c
 have hlo:=h.lo
 have hb4:=word_len hb
 have hg:=h.g
 have hz:∀ m,c.g.length≤m→wireB m (0:Int)=true:=fun m hm=>wireB_iff.2 (by omega)
 unfold wordP
 generalize regL c.r s.a=x at ha ⊢
 generalize regL c.r s.b=y at hb hb4 ⊢
 generalize regL c.r s.c=z at hc ⊢
 have hab:∀ j,j < 4→wireB c.g.length (x.getD j 0)=true∧wireB c.g.length (y.getD j 0)=true:=fun j hj=>⟨word_at ha hj,word_at hb hj⟩
 have hbc:∀ j,j < 4→wireB c.g.length (y.getD j 0)=true∧wireB c.g.length (z.getD j 0)=true:=fun j hj=>⟨word_at hb hj,word_at hc hj⟩
 by_cases h1:s.o=1
 ·rw [if_pos h1]
  have hl:=constTo_length c.g s.n 4
  exact ⟨constTo_ok _ hg 4,upW_word (by show _≤(constTo c.g s.n 4).length; omega),by show _≤(constTo c.g s.n 4).length; omega,by show (constTo c.g s.n 4).length≤_; omega⟩
 rw [if_neg h1]
 by_cases h2:s.o=2
 ·rw [if_pos h2]
  have hl:=inTo_length c.g s.a s.n 4
  have hi:=hs.inp h2
  have h0:=hs.a
  have h3:=hs.n
  exact ⟨inTo_ok hg (by omega) (by omega) 4 (by omega),upW_word (by show _≤(inTo c.g s.a s.n 4).length; omega),by show _≤(inTo c.g s.a s.n 4).length; omega,by show (inTo c.g s.a s.n 4).length≤_; omega⟩
 rw [if_neg h2]
 by_cases h3:s.o=3
 ·rw [if_pos h3]
  dsimp only
  rw [sumG_length]
  exact ⟨sumG_ok hg (.inl rfl) fun j hj=>hab j (by omega),sumW_word (by omega),by omega,by omega⟩
 rw [if_neg h3]
 by_cases h4:s.o=4
 ·rw [if_pos h4]
  have hl:=notsG_length c.g y
  dsimp only
  rw [sumG_length]
  exact ⟨sumG_ok (nots_ok hg (word_mem hb)) (.inr rfl) fun j hj=>⟨wireB_mono (hab j (by omega)).1 (by omega),upW_wire (by omega) (by omega)⟩,sumW_word (by omega),by omega,by omega⟩
 rw [if_neg h4]
 by_cases h5:s.o=5
 ·rw [if_pos h5]
  obtain ⟨q1,q2,q3⟩:=mulTo_ok hg ha hb 3 (Nat.le_refl _)
  exact ⟨q1,q2,q3,by rw [mulTo_len3]; omega⟩
 rw [if_neg h5]
 by_cases h6:s.o=6
 ·rw [if_pos h6]
  dsimp only
  rw [bitTo_length]
  exact ⟨bitTo_ok (.inr rfl) hg 4 hab,upW_word (by omega),by omega,by omega⟩
 rw [if_neg h6]
 by_cases h7:s.o=7
 ·rw [if_pos h7]
  dsimp only
  rw [bitTo_length]
  exact ⟨bitTo_ok (.inl rfl) hg 4 hab,upW_word (by omega),by omega,by omega⟩
 rw [if_neg h7]
 by_cases h8:s.o=8
 ·rw [if_pos h8]
  dsimp only
  rw [lessG_len]
  exact ⟨lessG_ok hg ha hb,word4_mk (wire_at (by omega)) (hz _ (by omega)) (hz _ (by omega)) (hz _ (by omega)),by omega,by omega⟩
 rw [if_neg h8]
 by_cases h9:s.o=9
 ·rw [if_pos h9]
  dsimp only
  rw [eqG_length]
  exact ⟨eqG_ok hg hab,word4_mk (wire_at (by omega)) (hz _ (by omega)) (hz _ (by omega)) (hz _ (by omega)),by omega,by omega⟩
 rw [if_neg h9]
 dsimp only
 rw [muxTo_length]
 exact ⟨muxTo_ok hg (word_at ha (by omega)) 4 hbc,muxW_word (by omega),by omega,by omega⟩
theorem outsB_mono {n m:Nat} {os:List Int} (h:outsB n os=true) (hm:n≤m):outsB m os=true:=by
 unfold outsB at *
 rw [List.all_eq_true] at *
 intro x hx
 exact wireB_mono (h x hx) hm
theorem ok_out {c:Cs} {k:Nat} (h:OkC c k) {s:St} (ha:0≤s.a∧s.a≤7):OkC ⟨c.g,c.r,c.o ++ regL c.r s.a⟩ (k + 1):=by
 obtain ⟨_,hw⟩:=h.reg ha
 have hl:=word_len hw
 have hh:=h.hi
 have ho:=h.oh
 refine ⟨h.g,h.lo,by show c.g.length≤_; omega,h.r,h.w,?_,by show (c.o ++ _).length≤_; rw [List.length_append]; omega⟩
 have h1:=h.o
 have h2:=word_mem hw
 show outsB c.g.length (c.o ++ _)=true
 unfold outsB at *
 rw [List.all_append,h1,Bool.true_and]
 exact List.all_eq_true.2 (fun x hx=>h2 x hx)
theorem ok_word {c:Cs} {k:Nat} (h:OkC c k) {s:St} (hs:Plain s):OkC ⟨(wordP c.g c.r 0 s).1,c.r.set s.d.toNat (wordP c.g c.r 0 s).2,c.o⟩ (k + 1):=by
 obtain ⟨h1,h2,h3,h4⟩:=wordP_ok h hs
 have hh:=h.hi
 have hl:=h.lo
 have ho:=h.oh
 refine ⟨h1,by show 4≤(wordP c.g c.r 0 s).1.length; omega,by show (wordP c.g c.r 0 s).1.length≤_; omega,by simp [h.r],fun ws hw=>?_,outsB_mono h.o h3,by show c.o.length≤_; omega⟩
 rcases List.mem_or_eq_of_mem_set hw with hw | rfl
 ·exact wordB4_mono (h.w ws hw) h3
 ·exact h2
theorem ok_step {c:Cs} {k:Nat} (h:OkC c k) {s:St} (hs:stmtB s=true) (h12:s.o≠12) (h13:s.o≠13):OkC (stepC c s) (k + 1):=by
 unfold stepC
 by_cases h11:s.o=11
 ·rw [if_pos h11]
  exact ok_out h (stmt_in hs).2.2.1
 ·rw [if_neg h11]
  exact ok_word h (stmt_plain hs h11 h12 h13)
theorem ok_take {L:List St} (hL:∀ s∈L,stmtB s=true∧s.o≠12∧s.o≠13):∀ k,k≤L.length→OkC (compC (L.take k)) k
 | 0,_=>ok0
 | k + 1,h=>by
  have hk:k < L.length:=by omega
  rw [List.take_succ_eq_append_getElem hk,compC_snoc]
  obtain ⟨h1,h2,h3⟩:=hL L[k] (List.getElem_mem hk)
  exact ok_step (ok_take hL k (by omega)) h1 h2 h3
theorem unrL_ok (L:List St):∀ s∈unrL L,stmtB s=true∧s.o≠12∧s.o≠13:=by
 unfold unrL
 split
 ·next h =>
  unfold unrB at h
  rw [Bool.and_eq_true] at h
  exact unr_in _ (trOf_ok h.1).2.1
 ·intro s hs
  cases hs
theorem unrL_len (L:List St):(unrL L).length≤120:=by
 unfold unrL
 split
 ·next h =>
  unfold unrB at h
  rw [Bool.and_eq_true,decide_eq_true_eq] at h
  rw [unr_length]
  exact h.2
 ·simp
noncomputable def compL (L:List St):Cs:=if unrB L=true then compC (unrL L) else ⟨[],[],[]⟩
theorem comp_ok (L:List St):OkC (compC (unrL L)) (unrL L).length:=by
 have h:=ok_take (unrL_ok L) (unrL L).length (Nat.le_refl _)
 rwa [List.take_length] at h
open Go.RowKit
theorem wrap_qm {q m:Nat} (h:q + m < 4):IntKind.i64.wrap ((q:Int) + (m:Int))=(q:Int) + (m:Int):=IntWalk.i64_in _ (by omega)
theorem toNat_qm {q m:Nat}:((q:Int) + (m:Int)).toNat=q + m:=by omega
attribute [local go_sem] wrap_qm toNat_qm
set_option linter.unusedVariables false in
set_option maxRecDepth 100000 in
set_option maxHeartbeats 3200000 in
theorem iWordMul {gs:List Gt} {G O:Option Addr} {cg co bx ox cx bY oy cy:Nat} {xs ys:List Int} (w:World) (hg:w.ownsRow 0 TG 3 (.slice G gs.length cg) gs.length (ints (flatG gs))) (ho:w.ownsRow 0 3 1 (.slice O 0 co) 0 (ints [])) (hok:gatesB 0 gs=true) (hl:gs.length≤5000)
  (hx:Wd w (some ⟨bx,ox,none⟩) xs) (hy:Wd w (some ⟨bY,oy,none⟩) ys) (hwx:wordB4 gs.length xs=true) (hwy:wordB4 gs.length ys=true) :
  Calls Tryz.prog 162 #[.agg #[.slice G gs.length cg,.slice O 0 co],.slice (some ⟨bx,ox,none⟩) 4 cx,.slice (some ⟨bY,oy,none⟩) 4 cy] w (GivesW w (mulTo gs xs ys 3).1 (mulTo gs xs ys 3).2):=by
 have HX:=hid (And.intro hx hy)
 have hx4:=(wordB4_at hwx).1
 have hy4:=(wordB4_at hwy).1
 clear hx hy
 go_enter Tryz.func162,Tryz.ntmps162
 have b_0:=(Below.refl w.heap.size w)
 have s_0:=b_0.size
 have og_in:=own_in hg
 have og_0:=hg
 clear hg
 have oo_in:=own_in ho
 have oo_0:=ho
 clear ho
 go_upto_region 1 with fail
 refine wp_forget2 (w0:=w) (B:=w.heap.size) (b0:=w.heap.size) (t0:=40) (c0:=#[.slice G gs.length cg,.slice O 0 co]) (b1:=w.heap.size + 1) (t1:=40) (c1:=#[.slice none 0 0,.slice none 0 0]) ?_ ?_ ?_ ?_
 (focus exact blkcBy)
 (focus exact blkcBy)
 (focus (exact belBy))
 intro w1 x_1 r_1 hX1
 have sX1:=hX1.size
 have x_lt:=x_1.lt
 have r_lt:=r_1.lt
 have b_1:=b_0.trans (hX1.mono (by omega))
 have og_1:=own_below og_0 hX1
 have oo_1:=own_below oo_0 hX1
 clear og_0 oo_0 b_0 hX1
 have cell_x:=x_1.cell
 have froz_x:=x_1.frozen
 have lt_x:=x_1.lt
 have cell_r:=r_1.cell
 have froz_r:=r_1.frozen
 have lt_r:=r_1.lt
 go_wp2_with fail
 refine calls_forget0 (W:=w1) ?_ ?_
 (focus (exact belBy))
 intro X2 hX2
 have sX2:=hX2.size
 refine (iCopyC _ _ _ _ _ _ (flatG gs) [] _ (own_below og_1 hX2) (own_below oo_1 hX2) (by omega) (by omega)).mono ?_
 rintro e w2 ⟨G',cg',O',co',rfl,pg_2,po_2,hb2⟩
 have s2:=hb2.size
 have hT2:=hX2.trans (hb2.mono sX2)
 have b_2:=b_1.trans (hT2.mono (by omega))
 have og_2:=own_below og_1 hT2
 have oo_2:=own_below oo_1 hT2
 have x_2:=Blk.past hT2 x_1
 have r_2:=Blk.past hT2 r_1
 have pg_in:=own_in pg_2
 have po_in:=own_in po_2
 clear og_1 oo_1 x_1 r_1 b_1 cell_x froz_x lt_x cell_r froz_r lt_r hX2 hT2 hb2
 have cell_x:=x_2.cell
 have froz_x:=x_2.frozen
 have lt_x:=x_2.lt
 have cell_r:=r_2.cell
 have froz_r:=r_2.frozen
 have lt_r:=r_2.lt
 go_upto_region 2 with fail
 refine wp_forget1 (w0:=w2) (B:=w2.heap.size) (b0:=w2.heap.size) (t0:=159) (c0:=#[.slice G' gs.length cg',.slice O' 0 co']) ?_ ?_ ?_
 (focus exact blkcBy)
 (focus (exact belBy))
 intro w3 u_3 hX3
 have sX3:=hX3.size
 have u_lt:=u_3.lt
 have b_3:=b_2.trans (hX3.mono (by omega))
 have og_3:=own_below og_2 hX3
 have oo_3:=own_below oo_2 hX3
 have pg_3:=own_below pg_2 hX3
 have po_3:=own_below po_2 hX3
 have x_3:=Blk.past hX3 x_2
 have r_3:=Blk.past hX3 r_2
 clear og_2 oo_2 pg_2 po_2 x_2 r_2 b_2 cell_x froz_x lt_x cell_r froz_r lt_r hX3
 have cell_x:=x_3.cell
 have froz_x:=x_3.frozen
 have lt_x:=x_3.lt
 have cell_r:=r_3.cell
 have froz_r:=r_3.frozen
 have lt_r:=r_3.lt
 have cell_u:=u_3.cell
 have froz_u:=u_3.frozen
 have lt_u:=u_3.lt
 go_wp2_with fail
 refine calls_forget1 (W:=w3) (b0:=w3.heap.size) (t0:=30) (c0:=#[.slice (some ⟨bx,ox,none⟩) 4 cx,.slice (some ⟨bY,oy,none⟩) 4 cy]) ?_ ?_ ?_
 (focus exact blkcBy)
 (focus (exact belBy))
 intro X4 q_n hX4
 have sX4:=hX4.size
 have q_lt:=q_n.lt
 refine (iIsWordOf G O _ cg co 2 2 gs [.slice (some ⟨bx,ox,none⟩) 4 cx,.slice (some ⟨bY,oy,none⟩) 4 cy] _ (Cells.of_own (own_below og_3 hX4)) hok (by omega) rfl (cells_vals q_n) (words2 (HX.out.1.below (b_3.trans (hX4.mono (by omega)))) (HX.out.2.below (b_3.trans (hX4.mono (by omega)))) hwx hwy) (by omega)).mono ?_
 rintro e w4 ⟨rfl,hb4⟩
 have s4:=hb4.size
 have hT4:=hX4.trans (hb4.mono sX4)
 have b_4:=b_3.trans (hT4.mono (by omega))
 have og_4:=own_below og_3 hT4
 have oo_4:=own_below oo_3 hT4
 have pg_4:=own_below pg_3 hT4
 have po_4:=own_below po_3 hT4
 have x_4:=Blk.past hT4 x_3
 have r_4:=Blk.past hT4 r_3
 have u_4:=Blk.past hT4 u_3
 have q_4:=Blk.past hb4 q_n
 clear og_3 oo_3 pg_3 po_3 x_3 r_3 u_3 b_3 cell_x froz_x lt_x cell_r froz_r lt_r cell_u froz_u lt_u q_n hX4 hT4 hb4
 have cell_x:=x_4.cell
 have froz_x:=x_4.frozen
 have lt_x:=x_4.lt
 have cell_r:=r_4.cell
 have froz_r:=r_4.frozen
 have lt_r:=r_4.lt
 have cell_u:=u_4.cell
 have froz_u:=u_4.frozen
 have lt_u:=u_4.lt
 have cell_q:=q_4.cell
 have froz_q:=q_4.frozen
 have lt_q:=q_4.lt
 clear cell_q froz_q lt_q
 clear q_4
 clear cell_x froz_x lt_x
 clear x_4
 clear og_4
 clear oo_4
 have HB:=hid (show Bld TI w4 w.heap.size w2.heap.size gs (.slice O' 0 co') from ⟨G',cg',u_4,by omega,own_weak pg_4 (by omega)⟩)
 have HR:=hid (And.intro r_4 (And.intro (own_weak (base':=w.heap.size) po_4 (by omega)) b_4))
 have zw:w.heap.size≤w4.heap.size:=b_4.size
 have zr:w.heap.size + 1 < w4.heap.size:=r_4.lt
 have HX4:=hid (And.intro (HX.out.1.below b_4) (HX.out.2.below b_4))
 clear pg_4 po_4 r_4 u_4 b_4 cell_r froz_r lt_r cell_u froz_u lt_u pg_in po_in
 go_upto_region 5 with fail
 obtain ⟨w9,hw9⟩:∃ w9,w9=w4.alloc (.cells #[] 3):=⟨_,rfl⟩
 have hb:Below w4.heap.size w4 w9:=by rw [hw9]; exact (Below.refl _ _).alloc (Nat.le_refl _) _
 have ho9:RowI w9 w4.heap.size 0 0 []:=by rw [hw9]; exact Row.new #[] (Nat.zero_le _) rfl rfl
 rw [←hw9]
 have H9:=hid (And.intro ((HB.out).below hb) (And.intro ((HX4.out.1).below hb) (And.intro ((HX4.out.2).below hb) (And.intro (ho9) ((Stay.of_below (T:=TI) (lo:=w.heap.size) hb))))))
 have hbk:=(HB.out).len
 have hl_bx:=(HX4.out.1).lt
 have hl_bY:=(HX4.out.2).lt
 clear ho9 hb hw9
 go_wp2_with fail
 go_loopw [9,11,32] (fun o _ i wr=>∃ (m g k:Nat),m≤4∧i=.int .i64 (m:Int)∧o=.slice (some ⟨g,0,none⟩) m k∧w4.heap.size≤g∧Bld TI wr w.heap.size w2.heap.size (andsTo gs (ys.getD 0 0) xs m) (.slice O' 0 co')∧Wd wr (some ⟨bx,ox,none⟩) xs∧Wd wr (some ⟨bY,oy,none⟩) ys∧RowI wr g m k (upW gs.length m)∧Stay TI w.heap.size w4 wr) (fun _ _ i _=>4 - (intOf i).toNat)
 case atStart=>exact ⟨0,w4.heap.size,0,Nat.zero_le _,rfl,rfl,Nat.le_refl _,H9.out.1,H9.out.2.1,H9.out.2.2.1,H9.out.2.2.2.1,H9.out.2.2.2.2⟩
 case round =>
  clear H9
  obtain ⟨m,g,k,hm,rfl,rfl,hg,hB,hW0,hW1,hR,hS⟩:=hrel
  have zr:=hS.size
  by_cases hlt:m < 4
  ·have hlt':(m:Int) < 4:=by omega
   obtain ⟨x0,e0⟩:∃ x,xs[m]? = some x:=⟨_,List.getElem?_eq_getElem (by omega)⟩
   have d0:=hW0.cell e0
   have g0:=getD_at e0
   have lx0:bx < wr.heap.size:=by omega
   obtain ⟨x1,e1⟩:∃ x,ys[0]? = some x:=⟨_,List.getElem?_eq_getElem (by omega)⟩
   have d1:wr.cell? ⟨bY,oy,none⟩=some (.int .i64 x1):=hW1.cell e1
   have g1:=getD_at e1
   have lx1:bY < wr.heap.size:=by omega
   have hlen:(andsTo gs (ys.getD 0 0) xs m).length=gs.length + m:=andsTo_length _ _ _ _
   obtain ⟨N1,hN1⟩:∃ N,gs.length + m=N:=⟨_,rfl⟩
   rw [hN1] at hlen
   have HT:=hid (show andsTo gs (ys.getD 0 0) xs (m + 1)=andsTo gs (ys.getD 0 0) xs m ++ [⟨4,x1,x0⟩] from by rw [andsTo,g0,g1])
   have hB0:=hB
   have H:=hid (And.intro (hB) (And.intro (hW0) (And.intro (hW1) (And.intro (hR) (hS)))))
   clear hB hW0 hW1 hR hS e0 g0 e1 g1
   go_wp2_with fail
   refine Calls.mono (iGate (n:=N1) _ _ _ _ (Bld.heap hB0 rfl) hlen (by omega)) ?_
   rintro e w7 ⟨rfl,h,t⟩
   have z3:=t.size
   have hS3:=H.out.2.2.2.2.onto t rfl rfl rfl rfl
   have zs3:=hS3.size
   have HR3:=hid (Row.onto H.out.2.2.2.1 t rfl (by decide) (by decide))
   have H3:=hid (And.intro (h) (And.intro ((Wd.onto H.out.2.1 t rfl (by decide))) (And.intro ((Wd.onto H.out.2.2.1 t rfl (by decide))) (hS3))))
   clear h t hS3 hB0 H d0 d1
   go_wp2_with (at_builtin; refine app_int rfl _ _ rfl rfl (HR3.out.alloc _) [((N1 + 0:Nat):Int)] rfl rfl (top_cells _ [_] _) (by omega) ?_)
   intro g' k' w8 h1 h2 h3
   have h2:=grown_alloc h2
   have hg':w4.heap.size≤g':=by (try simp at h3); omega
   have H8:=hid (And.intro ((bld_cast (gs':=andsTo gs (ys.getD 0 0) xs (m + 1)) (H3.out.1.grown h2 HR3.out (by decide)) (by rw [HT.out]))) (And.intro ((H3.out.2.1.grown h2 (by omega))) (And.intro ((H3.out.2.2.1.grown h2 (by omega))) (And.intro ((row_eq (ys:=upW gs.length (m + 1)) h1 (by first | (rw [upW,←hN1]; done) | (rw [upW,←hN1]; simp)))) ((H3.out.2.2.2.grown h2 (by omega)))))))
   clear h1 h2 h3 H3 HR3
   go_wp2
   go_roundw
   case rel=>exact ⟨m + 1,g',k',by omega,by go_num,rfl,hg',H8.out.1,H8.out.2.1,H8.out.2.2.1,H8.out.2.2.2.1,H8.out.2.2.2.2⟩
   case measure=>simp [intOf]; omega
  ·obtain rfl:m=4:=by omega
   rw [show ((4:Nat):Int)=4 from rfl]
   have H5:=hid (And.intro hB (And.intro hW0 (And.intro hW1 (And.intro hR hS))))
   have zs:=hS.size
   clear hB hW0 hW1 hR hS
   go_wp2_with fail
   go_loopw [9,12,13,14] (fun o i _ _ wr=>∃ (m q g k:Nat),m≤3∧q=m + 1∧i=.int .i64 (q:Int)∧o=.slice (some ⟨g,0,none⟩) 4 k∧w4.heap.size≤g∧Bld TI wr w.heap.size w2.heap.size (mulTo gs xs ys m).1 (.slice O' 0 co')∧Wd wr (some ⟨bx,ox,none⟩) xs∧Wd wr (some ⟨bY,oy,none⟩) ys∧RowI wr g 4 k (mulTo gs xs ys m).2∧Stay TI w.heap.size w4 wr) (fun _ i _ _ _=>4 - (intOf i).toNat)
   case atStart=>exact ⟨0,1,g,k,Nat.zero_le _,rfl,rfl,rfl,hg,H5.out.1,H5.out.2.1,H5.out.2.2.1,H5.out.2.2.2.1,H5.out.2.2.2.2⟩
   case round =>
    clear H5
    obtain ⟨m0,q,g0,k0,hm0,hq,rfl,rfl,hg0,hB,hW0,hW1,hR,hS⟩:=hrel
    have zr0:=hS.size
    have hlen0:=mulTo_len1 gs xs ys m0 hm0
    have hlenw:=mulTo_len2 gs xs ys m0 hm0
    obtain ⟨gs0,hgs0⟩:∃ l,(mulTo gs xs ys m0).1=l:=⟨_,rfl⟩
    obtain ⟨ws0,hws0⟩:∃ l,(mulTo gs xs ys m0).2=l:=⟨_,rfl⟩
    rw [hgs0] at hB hlen0
    rw [hws0] at hR hlenw
    rename World=>wo
    have hk0:=hR.cap
    have HP:=hid (And.intro hB (And.intro hW0 (And.intro hW1 (And.intro (Wd.of_row hR) (And.intro hR hS)))))
    have HM:=hid (And.intro hgs0 (And.intro hws0 hq))
    have hq1:1≤q:=by omega
    clear hB hW0 hW1 hR hS hgs0 hws0
    by_cases hlt0:m0 < 3
    ·have hq4:(q:Int) < 4:=by omega
     have hq4n:q < 4:=by omega
     have hl0:ws0.length=4:=hlenw
     obtain ⟨M,hM⟩:∃ M,4 - q=M + 1:=⟨3 - q,by omega⟩
     have HL:=hid hM
     have hM3:M≤2:=by omega
     clear hM hq hlenw
     obtain ⟨i0,hi,hz0,hz1,hz2⟩:=info_parts infoI
     go_wp2_with (at_make; refine wpList_make_full _ rfl _ _ 30 rfl wo.heap.size 3 i0 (.int .i64 0) 1 Tryz.underlying30 hi hz0 hz1 _ _ _ _ 4 rfl rfl rfl rfl (by rw [hz2]; omega) (by unfold maxLen; omega) (Nat.le_refl _) ?_)
     intro w9 hown1 hg1
     have hb1:Below wo.heap.size wo w9:=(Below.refl _ _).grown hg1 (Nat.le_refl _) (fun k hk=>by cases hk)
     have hp0:RowI w9 wo.heap.size 4 4 (prow q gs0.length 0):=by
      have e:ints (prow q gs0.length 0)=(madeCells #[Value.int IntKind.i64 0] 4).toList:=by rw [prow_zero _ _ (by omega),toList_madeCells_one]; rfl
      show Row _ _ _ _ _ _ _
      rw [e]
      exact own_weak hown1 (Nat.zero_le _)
     have z9:=hb1.size
     have H9:=hid (And.intro (HP.out.1.below hb1) (And.intro (HP.out.2.1.below hb1) (And.intro (HP.out.2.2.1.below hb1) (And.intro (HP.out.2.2.2.1.below hb1) (And.intro hp0 (HP.out.2.2.2.2.2.trans (Stay.of_below (lo:=w.heap.size) hb1)))))))
     clear hi hz0 hz1 hz2 hg1 hown1 hp0 hb1
     go_wp2_with fail
     go_loopw [14] (fun i wr=>∃ (m:Nat),m≤M + 1∧i=.int .i64 (m:Int)∧Bld TI wr w.heap.size w2.heap.size (andsTo gs0 (ys.getD q 0) xs m) (.slice O' 0 co')∧Wd wr (some ⟨bx,ox,none⟩) xs∧Wd wr (some ⟨bY,oy,none⟩) ys∧Wd wr (some ⟨g0,0,none⟩) ws0∧RowI wr wo.heap.size 4 4 (prow q gs0.length m)∧Stay TI w.heap.size w4 wr) (fun i _=>M + 1 - (intOf i).toNat)
     case atStart=>exact ⟨0,Nat.zero_le _,rfl,H9.out.1,H9.out.2.1,H9.out.2.2.1,H9.out.2.2.2.1,H9.out.2.2.2.2.1,H9.out.2.2.2.2.2⟩
     case round =>
      clear H9
      obtain ⟨m,hm,rfl,hB,hW0,hW1,hW2,hR,hS⟩:=hrel
      have zr:=hS.size
      by_cases hlt:m < M + 1
      ·have hlt':(m:Int)≤3 - (q:Int):=by have:=HL.out; omega
       have hm4:(m:Int) < 4:=by omega
       have hqm:q + m < 4:=by have:=HL.out; omega
       have hqm':(q:Int) + (m:Int) < 4:=by omega
       have hqm0:(0:Int)≤(q:Int) + (m:Int):=by omega
       have nb0:wo.heap.size≠bx:=by have:=HP.out.2.1.lt; omega
       have nb1:wo.heap.size≠bY:=by have:=HP.out.2.2.1.lt; omega
       have hqmn:((q:Int) + (m:Int)).toNat=q + m:=by omega
       obtain ⟨x0,e0⟩:∃ x,xs[m]? = some x:=⟨_,List.getElem?_eq_getElem (by omega)⟩
       obtain ⟨x1,e1⟩:∃ x,ys[q]? = some x:=⟨_,List.getElem?_eq_getElem (by omega)⟩
       have d0:=hW0.cell e0
       have d1:=hW1.cell e1
       have g0':=getD_at e0
       have g1:=getD_at e1
       have lx0:=hW0.lt
       have lx1:=hW1.lt
       have lp:=hR.lt
       have hlen:(andsTo gs0 (ys.getD q 0) xs m).length=gs0.length + m:=andsTo_length _ _ _ _
       obtain ⟨N1,hN1⟩:∃ N,gs0.length + m=N:=⟨_,rfl⟩
       rw [hN1] at hlen
       have HT:=hid (show andsTo gs0 (ys.getD q 0) xs (m + 1)=andsTo gs0 (ys.getD q 0) xs m ++ [⟨4,x1,x0⟩] from by rw [andsTo,g0',g1])
       have hB0:=hB
       have hX0:=hW0
       have hX1:=hW1
       have hR0:=hR
       have H:=hid (And.intro hB (And.intro hW0 (And.intro hW1 (And.intro hW2 (And.intro hR hS)))))
       have hnb:N1≤100000:=by omega
       have hti:3≠TI:=by decide
       have htg:3≠TG:=by decide
       have HN:=hid hN1
       have hpl:=prow_length q gs0.length m (by omega)
       obtain ⟨pu,hpu⟩:∃ u,(prow q gs0.length m)[q + m]? = some u:=⟨_,List.getElem?_eq_getElem (by omega)⟩
       clear hB hW0 hW1 hW2 hR hS g0' g1
       go_upto_region 17 with fail
       go_region_held3 (fun w'=>w'.cell? ⟨bx,ox + m,none⟩=some (.int .i64 x0)∧w'.cell? ⟨bY,oy + q,none⟩=some (.int .i64 x1)) (first | exact ⟨d0,d1⟩ | exact ⟨d0p,d1p⟩ | exact ⟨cell_far d0p nb0,cell_far d1p nb1⟩) ((go_at_call 158; refine Calls.mono (iGate (n:=N1) _ _ _ _ (Bld.heap hB0 rfl) hlen hnb) ?_; rintro e w7 ⟨rfl,h,t⟩; have d0p:=(Wd.onto hX0 t rfl hti).cell e0; have d1p:=(Wd.onto hX1 t rfl hti).cell e1; have hR7:=Row.onto hR0 t rfl hti htg; have hp7:=hR7.cell (ints_get hpu); have hf7:=World.ownsRow.frozenAt hR7 (q + m)))
       have hst:RowI (w7.setCell ⟨wo.heap.size,q + m,none⟩ (.int .i64 (N1:Int))) wo.heap.size 4 4 (prow q gs0.length (m + 1))∧w7.grownBy (w7.setCell ⟨wo.heap.size,q + m,none⟩ (.int .i64 (N1:Int))) (some wo.heap.size):=by
        have r0:=World.ownsRow.stored (show w7.ownsRow 0 3 1 (.slice (some ⟨wo.heap.size,0,none⟩) 4 4) 4 (ints (prow q gs0.length m)) from hR7) (q + m) (.int .i64 (N1:Int))
        refine ⟨?_,r0.2⟩
        have e:ints (prow q gs0.length (m + 1))=(ints (prow q gs0.length m)).set (q + m) (.int .i64 (N1:Int)):=by
         rw [←prow_set _ _ _ hqm,HN.out]
         unfold ints
         rw [List.map_set]
        show Row _ _ _ _ _ _ _
        rw [e]
        exact r0.1
       have hS7:=H.out.2.2.2.2.2.onto t rfl rfl rfl rfl
       have H7:=hid (And.intro (bld_cast (gs':=andsTo gs0 (ys.getD q 0) xs (m + 1)) (h.grown hst.2 hR7 (by decide)) (by rw [HT.out])) (And.intro ((Wd.onto H.out.2.1 t rfl (by decide)).grown hst.2 (by omega)) (And.intro ((Wd.onto H.out.2.2.1 t rfl (by decide)).grown hst.2 (by omega)) (And.intro ((Wd.onto H.out.2.2.2.1 t rfl (by decide)).grown hst.2 (by have:=HP.out.2.2.2.1.lt; omega)) (And.intro hst.1 (hS7.grown hst.2 (by omega)))))))
       clear h t hst hS7 hR7 hp7 hf7 d0p d1p H hX0 hX1 hR0 hB0 d0 d1 e0 e1 hpu
       go_wp2
       go_roundw
       case rel=>exact ⟨m + 1,by omega,by go_num,H7.out.1,H7.out.2.1,H7.out.2.2.1,H7.out.2.2.2.1,H7.out.2.2.2.2.1,H7.out.2.2.2.2.2⟩
       case measure=>simp [intOf]; omega
      ·obtain rfl:m=M + 1:=by omega
       have hstop:¬ (((M + 1:Nat):Int)≤3 - (q:Int)):=by have:=HL.out; omega
       have hlen:(andsTo gs0 (ys.getD q 0) xs (M + 1)).length=gs0.length + (M + 1):=andsTo_length _ _ _ _
       obtain ⟨N1,hN1⟩:∃ N,gs0.length + (M + 1)=N:=⟨_,rfl⟩
       rw [hN1] at hlen
       have hnb:N1≤50000:=by omega
       have hqM:q + (M + 1)=4:=by have:=HL.out; omega
       have hpl:=prow_length q gs0.length (M + 1) (by omega)
       have H6:=hid (And.intro hB (And.intro hW0 (And.intro hW1 (And.intro hW2 (And.intro (Wd.of_row hR) hS)))))
       have HN:=hid hN1
       have HQ:=hid hqM
       clear hB hW0 hW1 hW2 hR hS hN1 hqM
       go_wp2_with fail
       refine Calls.mono (iSum (n:=N1) 0 q _ H6.out.1 hlen hnb H6.out.2.2.2.1 H6.out.2.2.2.2.1 hl0 hpl (by omega) hk0) ?_
       rintro e w7 ⟨g7,k7,rfl,hg7,hrow,hbl,hst⟩
       have z7:=hst.size
       have HT:=hid (show mulTo gs xs ys (m0 + 1)=(sumG (andsTo gs0 (ys.getD q 0) xs (M + 1)) (ws0.drop q) ((prow q gs0.length (M + 1)).drop q) 0 (3 - q),ws0.take q ++ sumW N1 (3 - q)) from by
        have hq:=HM.out.2.2
        have h4:=HQ.out
        subst hq
        have e1:3 - m0=M + 1:=by omega
        have e2:2 - m0=3 - (m0 + 1):=by omega
        have e3:(andsTo gs0 (ys.getD (m0 + 1) 0) xs (M + 1)).length=N1:=hlen
        simp only [mulTo,e1,e2,HM.out.1,HM.out.2.1,e3,prow_drop _ _ _ h4])
       have H7:=hid (And.intro (bld_cast (gs':=(mulTo gs xs ys (m0 + 1)).1) hbl (by rw [HT.out])) (And.intro (H6.out.2.1.stay hst (by decide)) (And.intro (H6.out.2.2.1.stay hst (by decide)) (And.intro (row_eq (ys:=(mulTo gs xs ys (m0 + 1)).2) hrow (by rw [HT.out])) (H6.out.2.2.2.2.2.trans hst)))))
       clear hrow hbl hst H6
       go_wp2
       go_roundw
       case rel=>exact ⟨m0 + 1,q + 1,g7,k7,by omega,by have:=HM.out.2.2; omega,by go_num,rfl,by omega,H7.out.1,H7.out.2.1,H7.out.2.2.1,H7.out.2.2.2.1,H7.out.2.2.2.2⟩
       case measure=>simp [intOf]; omega
    ·obtain rfl:m0=3:=by omega
     have hq4:¬ ((q:Int) < 4):=by omega
     have hgg:w.heap.size≤g0:=by omega
     have HZ:=hid (And.intro (bld_cast (gs':=(mulTo gs xs ys 3).1) HP.out.1 HM.out.1.symm) (And.intro (row_eq (ys:=(mulTo gs xs ys 3).2) HP.out.2.2.2.2.1 HM.out.2.1.symm) HP.out.2.2.2.2.2))
     have zz:=HP.out.2.2.2.2.2.size
     clear HP
     obtain ⟨Az,cz,hu,hlo,hgz⟩:=HZ.out.1
     have cell_u:=hu.cell
     have froz_u:=hu.frozen
     have lt_u:=hu.lt
     have hr:=HZ.out.2.2.blk HR.out.1 (by decide) (by decide)
     have cell_r:=hr.cell
     have froz_r:=hr.frozen
     have lt_r:=hr.lt
     have hlz:(mulTo gs xs ys 3).1.length=gs.length + 34:=mulTo_len3 _ _ _
     have HF:=hid (And.intro hlz (And.intro hgz (And.intro (HZ.out.2.2.own HR.out.2.1 (by decide) (by decide)) (And.intro HZ.out.2.1 (And.intro (HR.out.2.2.trans (HZ.out.2.2.below zw)) hr)))))
     have hne:w2.heap.size≠w.heap.size + 1:=by omega
     rw [hlz] at cell_u
     clear hu hgz hr hlz
     go_wp2
     ((try simp only [Exit.inBlock,Exit.then]); apply bodyPost_ret0; focus ((try simp only [results,Tryz.results162]); (try go_simp); (try rfl)))
     exact gives_w HF.out.1 HF.out.2.1 HF.out.2.2.1 HF.out.2.2.2.1 HF.out.2.2.2.2.1 hgg HF.out.2.2.2.2.2 (by omega) (by exact tchBy)
open Go.RowKit
theorem infoW:(Tryz.prog.info? 30).map (fun i=>(i.zero,i.size,i.bytes))=some (some (.slice none 0 0),1,24):=by kernel_rfl
def Regs (w:World) (g c:Nat) (rs:List (List Int)):Prop :=
 ∃ vals:List Value,Row w g 30 1 8 c vals∧∀ (j:Nat) (ws:List Int),rs[j]? = some ws→∃ b off k,vals[j]? = some (.slice (some ⟨b,off,none⟩) 4 k)∧4≤k∧Wd w (some ⟨b,off,none⟩) ws
section
variable {w w':World} {g c:Nat} {rs:List (List Int)}
theorem Regs.at_ (h:Regs w g c rs) {j:Nat} {ws:List Int} (hj:rs[j]? = some ws):∃ b off k,w.cell? ⟨g,j,none⟩=some (.slice (some ⟨b,off,none⟩) 4 k)∧4≤k∧Wd w (some ⟨b,off,none⟩) ws:=by
 obtain ⟨vals,h1,h2⟩:=h
 obtain ⟨b,off,k,e,hk,hw⟩:=h2 j ws hj
 exact ⟨b,off,k,h1.cell e,hk,hw⟩
theorem Regs.lt (h:Regs w g c rs):g < w.heap.size:=by
 obtain ⟨vals,h1,_⟩:=h
 exact h1.lt
theorem Regs.cap (h:Regs w g c rs):8≤c:=by
 obtain ⟨vals,h1,_⟩:=h
 exact h1.cap
theorem Regs.below (h:Regs w g c rs) (hb:Below w.heap.size w w'):Regs w' g c rs:=by
 obtain ⟨vals,h1,h2⟩:=h
 refine ⟨vals,h1.below hb,fun j ws hj=>?_⟩
 obtain ⟨b,off,k,e,hk,hw⟩:=h2 j ws hj
 exact ⟨b,off,k,e,hk,hw.below hb⟩
theorem Regs.stay {T lo:Nat} (h:Regs w g c rs) (hs:Stay T lo w w') (h1:3≠T) (h2:30≠T):Regs w' g c rs:=by
 obtain ⟨vals,q1,q2⟩:=h
 refine ⟨vals,hs.row q1 h2 (by decide),fun j ws hj=>?_⟩
 obtain ⟨b,off,k,e,hk,hw⟩:=q2 j ws hj
 exact ⟨b,off,k,e,hk,hw.stay hs h1⟩
theorem Regs.heap {X:World} (h:Regs w g c rs) (e:X.heap=w.heap):Regs X g c rs:=by
 obtain ⟨vals,q1,q2⟩:=h
 refine ⟨vals,by unfold Row World.ownsRow at q1 ⊢; rw [e]; exact q1,fun j ws hj=>?_⟩
 obtain ⟨b,off,k,e1,hk,hw⟩:=q2 j ws hj
 exact ⟨b,off,k,e1,hk,hw.heap e⟩
theorem Wd.set_ {A:Option Addr} {xs:List Int} (h:Wd w A xs) {p:Addr} {u:Value} (hp:∀ b off,A=some ⟨b,off,none⟩→b≠p.block):Wd (w.setCell p u) A xs:=by
 obtain ⟨b,off,cs,m,e,hb,hc⟩:=h
 exact ⟨b,off,cs,m,e,(Below.heap_setCell w p u b (hp b off e)).trans hb,hc⟩
theorem Wd.not_ {A:Option Addr} {xs:List Int} (h:Wd w A xs) {b off q e s n k:Nat} {vs:List Value} (hA:A=some ⟨b,off,none⟩) (hr:Row w q e s n k vs) (hne:e≠3):b≠q:=by
 obtain ⟨b',off',cs,m,e1,hb,_⟩:=h
 rw [hA] at e1
 injection e1 with e1
 injection e1 with e1
 subst e1
 rintro rfl
 obtain ⟨_,cur,h1,_⟩:=hr.parts
 rw [h1] at hb
 injection hb with hb
 injection hb with _ h2 _
 exact hne h2
theorem Regs.set_ (h:Regs w g c rs) {j:Nat} (hj:j < rs.length) {b off k:Nat} {ws:List Int} (hk:4≤k) (hw:Wd w (some ⟨b,off,none⟩) ws) :
  Regs (w.setCell ⟨g,j,none⟩ (.slice (some ⟨b,off,none⟩) 4 k)) g c (rs.set j ws)∧w.grownBy (w.setCell ⟨g,j,none⟩ (.slice (some ⟨b,off,none⟩) 4 k)) (some g):=by
 obtain ⟨vals,q1,q2⟩:=h
 have r0:=World.ownsRow.stored (show w.ownsRow 0 30 1 (.slice (some ⟨g,0,none⟩) 8 c) 8 vals from q1) j (.slice (some ⟨b,off,none⟩) 4 k)
 refine ⟨⟨vals.set j (.slice (some ⟨b,off,none⟩) 4 k),r0.1,fun i us hi=>?_⟩,r0.2⟩
 rw [List.getElem?_set] at hi
 by_cases e:j=i
 ·subst e
  rw [if_pos rfl,if_pos hj] at hi
  injection hi with hi
  subst hi
  have hv:j < vals.length:=by
   obtain ⟨b',off',k',e',_⟩:=q2 j _ (List.getElem?_eq_getElem hj)
   exact (List.getElem?_eq_some_iff.1 e').1
  refine ⟨b,off,k,by rw [List.getElem?_set,if_pos rfl,if_pos hv],hk,hw.set_ fun b' off' e'=>?_⟩
  injection e' with e'
  injection e' with e1 e2
  subst e1 e2
  exact hw.not_ rfl q1 (by decide)
 ·rw [if_neg e] at hi
  obtain ⟨b',off',k',e',hk',hw'⟩:=q2 i us hi
  refine ⟨b',off',k',by rw [List.getElem?_set,if_neg e]; exact e',hk',hw'.set_ fun b'' off'' e''=>?_⟩
  injection e'' with e''
  injection e'' with e1 e2
  subst e1 e2
  exact hw'.not_ rfl q1 (by decide)
theorem Regs.grown {q e s n k:Nat} {vs:List Value} (h:Regs w g c rs) (hg:w.grownBy w' (some q)) (hr:Row w q e s n k vs) (h1:e≠3) (h2:e≠30):Regs w' g c rs:=by
 obtain ⟨vals,q1,q2⟩:=h
 refine ⟨vals,q1.grown hg (fun hq=>?_),fun j ws hj=>?_⟩
 ·subst hq
  obtain ⟨_,c1,k1,_⟩:=q1.parts
  obtain ⟨_,c2,k2,_⟩:=hr.parts
  rw [k1] at k2
  injection k2 with k2
  injection k2 with _ k2 _
  exact h2 k2.symm
 ·obtain ⟨b',off',k',e',hk',hw'⟩:=q2 j ws hj
  exact ⟨b',off',k',e',hk',hw'.grown hg (hw'.not_ rfl hr h1)⟩
end
end Go.Proofs.YtihbaieiempjeaaGreat
