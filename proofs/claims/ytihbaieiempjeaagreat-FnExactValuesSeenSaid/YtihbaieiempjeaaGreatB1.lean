/- Lemmas of the proof: Tape, IntS, Lab. -/
import Derived.Test.YtihbaieiempjeaaGreatB0
import Derived.Deep.RegionHeld3
import Derived.Outline
import Derived.Laws.OwnMore
import Derived.Laws.MakeOwn
import Derived.OwnWalk
namespace Go.Proofs.YtihbaieiempjeaaGreat
open Go.RowKit
theorem key_tdiv (s a:Int):(keyedI s 7 a).tdiv 256=keyedI s 7 a / 256:=Int.tdiv_eq_ediv_of_nonneg (keyedI_range s 7 a).1
theorem key_tmod (s a n:Int):(keyedI s 7 a / 256).tmod n=keyedI s 7 a / 256 % n:=Int.tmod_eq_emod_of_nonneg (by have:=(keyedI_range s 7 a).1; omega)
theorem key_wrap (s a:Int):wrap64 (keyedI s 7 a / 256)=keyedI s 7 a / 256:=IntWalk.wrap64_in _ (by have:=keyedI_range s 7 a; omega)
theorem key_wrapk (s a:Int):IntKind.i64.wrap (keyedI s 7 a / 256)=keyedI s 7 a / 256:=IntWalk.i64_in _ (by have:=keyedI_range s 7 a; omega)
theorem zero_wrap:wrap64 0=0:=IntWalk.wrap64_in _ (by omega)
theorem zero_wrapk:IntKind.i64.wrap 0=0:=IntWalk.i64_in _ (by omega)
attribute [local go_sem] key_tdiv key_tmod key_wrap key_wrapk zero_wrap zero_wrapk
def wordI (s a:Int):Int:=pick (tapeGoB s a) (keyedI s 7 a) 0
def wordAt (s a:Int):Int:=pick (tapeGoB s a) (a + 1) a
theorem wrap_a1 {a:Int} (h0:0≤a) (h1:a≤1000000):IntKind.i64.wrap (a + 1)=a + 1:=IntWalk.i64_in _ (by omega)
attribute [local go_sem] wrap_a1
set_option maxHeartbeats 800000 in
theorem iTapeWord (s a:Int) (w:World) :
  Calls Tryz.prog 189 #[.agg #[.int .i64 s,.int .i64 a]] w fun e w'=>e=.returned (.tuple #[.int .i64 (wordI s a),.agg #[.int .i64 s,.int .i64 (wordAt s a)]])∧Below w.heap.size w w':=by
 cases h1:tapeOkB s a; rotate_left
 cases h2:(a == 1000000)
 ·have e1:wordI s a=keyedI s 7 a:=by unfold wordI tapeGoB; rw [h1,h2]; rfl
  have e2:wordAt s a=a + 1:=by unfold wordAt tapeGoB; rw [h1,h2]; rfl
  obtain ⟨hr0,hr1⟩:=tapeOkB_range h1
  rw [e1,e2]
  clear e1 e2
  go_enter Tryz.func189,Tryz.ntmps189
  have b_0:=(Below.refl w.heap.size w)
  have s_0:=b_0.size
  go_wp2_with fail
  refine calls_forget2 (W:=w) (b0:=w.heap.size) (t0:=27) (c0:=#[.int .i64 s,.int .i64 a]) (b1:=w.heap.size + 1) (t1:=27) (c1:=#[.int .i64 0,.int .i64 0]) ?_ ?_ ?_ ?_
  (focus exact blkcBy)
  (focus exact blkcBy)
  (focus (exact belBy))
  intro X1 t_n r_n hX1
  have sX1:=hX1.size
  have t_lt:=t_n.lt
  have r_lt:=r_n.lt
  refine (iTapeOk _ _ _).mono ?_
  rintro e w1 ⟨rfl,hb1⟩
  have s1:=hb1.size
  have hT1:=hX1.trans (hb1.mono sX1)
  have b_1:=b_0.trans (hT1.mono (by omega))
  have t_1:=Blk.past hb1 t_n
  have r_1:=Blk.past hb1 r_n
  clear b_0 t_n r_n hX1 hT1 hb1
  have cell_t:=t_1.cell
  have froz_t:=t_1.frozen
  have lt_t:=t_1.lt
  have cell_r:=r_1.cell
  have froz_r:=r_1.frozen
  have lt_r:=r_1.lt
  go_wp2_with fail
  go_region_held3 (fun w'=>w'.cell? ⟨w.heap.size,0,none⟩=some (.int .i64 s)∧w'.cell? ⟨w.heap.size,1,none⟩=some (.int .i64 a)) ((refine ⟨(Blk.cell (t:=27) (cs:=#[.int .i64 s,.int .i64 a]) ?qt 0),(Blk.cell ?qt 1)⟩; (case qt=>(exact blkBy)))) (first | (go_at_call 57; refine (iKeyed _ _ _ _).mono ?_; rintro e w' ⟨rfl,rfl⟩))
  all_goals
   go_wp2_with fail
   ((try simp only [Exit.inBlock,Exit.then]); apply bodyPost_ret0; focus ((try simp only [results,Tryz.results189]); (try go_simp); (try rfl)))
   refine ⟨rfl,?_⟩
   exact belBy
 all_goals
  have e1:wordI s a=0:=by
   unfold wordI tapeGoB
   first | (rw [h2]; simp; done) | (rw [h1]; simp; done)
  have e2:wordAt s a=a:=by
   unfold wordAt tapeGoB
   first | (rw [h2]; simp; done) | (rw [h1]; simp; done)
  rw [e1,e2]
  clear e1 e2
  go_enter Tryz.func189,Tryz.ntmps189
  have b_0:=(Below.refl w.heap.size w)
  have s_0:=b_0.size
  go_wp2_with fail
  refine calls_forget2 (W:=w) (b0:=w.heap.size) (t0:=27) (c0:=#[.int .i64 s,.int .i64 a]) (b1:=w.heap.size + 1) (t1:=27) (c1:=#[.int .i64 0,.int .i64 0]) ?_ ?_ ?_ ?_
  (focus exact blkcBy)
  (focus exact blkcBy)
  (focus (exact belBy))
  intro X1 t_n r_n hX1
  have sX1:=hX1.size
  have t_lt:=t_n.lt
  have r_lt:=r_n.lt
  refine (iTapeOk _ _ _).mono ?_
  rintro e w1 ⟨rfl,hb1⟩
  have s1:=hb1.size
  have hT1:=hX1.trans (hb1.mono sX1)
  have b_1:=b_0.trans (hT1.mono (by omega))
  have t_1:=Blk.past hb1 t_n
  have r_1:=Blk.past hb1 r_n
  clear b_0 t_n r_n hX1 hT1 hb1
  have cell_t:=t_1.cell
  have froz_t:=t_1.frozen
  have lt_t:=t_1.lt
  have cell_r:=r_1.cell
  have froz_r:=r_1.frozen
  have lt_r:=r_1.lt
  go_wp2_with fail
  go_region_held3 (fun w'=>w'.cell? ⟨w.heap.size,0,none⟩=some (.int .i64 s)∧w'.cell? ⟨w.heap.size,1,none⟩=some (.int .i64 a)) ((refine ⟨(Blk.cell (t:=27) (cs:=#[.int .i64 s,.int .i64 a]) ?qt 0),(Blk.cell ?qt 1)⟩; (case qt=>(exact blkBy)))) (fail)
  all_goals
   go_wp2_with fail
   ((try simp only [Exit.inBlock,Exit.then]); apply bodyPost_ret0; focus ((try simp only [results,Tryz.results189]); (try go_simp); (try rfl)))
   refine ⟨rfl,?_⟩
   exact belBy
set_option maxHeartbeats 800000 in
theorem sTapeWord (s a:Int) (w:World) :
  Calls Tryz.prog 191 #[.agg #[.int .i64 s,.int .i64 a]] w fun e w'=>e=.returned (.tuple #[.int .i64 (wordI s a),.agg #[.int .i64 s,.int .i64 (wordAt s a)]])∧Below w.heap.size w w':=by
 cases h1:tapeOkB s a; rotate_left
 cases h2:(a == 1000000)
 ·have e1:wordI s a=keyedI s 7 a:=by unfold wordI tapeGoB; rw [h1,h2]; rfl
  have e2:wordAt s a=a + 1:=by unfold wordAt tapeGoB; rw [h1,h2]; rfl
  obtain ⟨hr0,hr1⟩:=tapeOkB_range h1
  rw [e1,e2]
  clear e1 e2
  go_enter Tryz.func191,Tryz.ntmps191
  have b_0:=(Below.refl w.heap.size w)
  have s_0:=b_0.size
  go_wp2_with fail
  refine calls_forget2 (W:=w) (b0:=w.heap.size) (t0:=27) (c0:=#[.int .i64 s,.int .i64 a]) (b1:=w.heap.size + 1) (t1:=27) (c1:=#[.int .i64 0,.int .i64 0]) ?_ ?_ ?_ ?_
  (focus exact blkcBy)
  (focus exact blkcBy)
  (focus (exact belBy))
  intro X1 t_n r_n hX1
  have sX1:=hX1.size
  have t_lt:=t_n.lt
  have r_lt:=r_n.lt
  refine (sTapeOk _ _ _).mono ?_
  rintro e w1 ⟨rfl,hb1⟩
  have s1:=hb1.size
  have hT1:=hX1.trans (hb1.mono sX1)
  have b_1:=b_0.trans (hT1.mono (by omega))
  have t_1:=Blk.past hb1 t_n
  have r_1:=Blk.past hb1 r_n
  clear b_0 t_n r_n hX1 hT1 hb1
  have cell_t:=t_1.cell
  have froz_t:=t_1.frozen
  have lt_t:=t_1.lt
  have cell_r:=r_1.cell
  have froz_r:=r_1.frozen
  have lt_r:=r_1.lt
  go_wp2_with fail
  go_region_held3 (fun w'=>w'.cell? ⟨w.heap.size,0,none⟩=some (.int .i64 s)∧w'.cell? ⟨w.heap.size,1,none⟩=some (.int .i64 a)) ((refine ⟨(Blk.cell (t:=27) (cs:=#[.int .i64 s,.int .i64 a]) ?qt 0),(Blk.cell ?qt 1)⟩; (case qt=>(exact blkBy)))) (first | (go_at_call 182; refine (sKeyed _ _ _ _).mono ?_; rintro e w' ⟨rfl,rfl⟩))
  all_goals
   go_wp2_with fail
   ((try simp only [Exit.inBlock,Exit.then]); apply bodyPost_ret0; focus ((try simp only [results,Tryz.results191]); (try go_simp); (try rfl)))
   refine ⟨rfl,?_⟩
   exact belBy
 all_goals
  have e1:wordI s a=0:=by
   unfold wordI tapeGoB
   first | (rw [h2]; simp; done) | (rw [h1]; simp; done)
  have e2:wordAt s a=a:=by
   unfold wordAt tapeGoB
   first | (rw [h2]; simp; done) | (rw [h1]; simp; done)
  rw [e1,e2]
  clear e1 e2
  go_enter Tryz.func191,Tryz.ntmps191
  have b_0:=(Below.refl w.heap.size w)
  have s_0:=b_0.size
  go_wp2_with fail
  refine calls_forget2 (W:=w) (b0:=w.heap.size) (t0:=27) (c0:=#[.int .i64 s,.int .i64 a]) (b1:=w.heap.size + 1) (t1:=27) (c1:=#[.int .i64 0,.int .i64 0]) ?_ ?_ ?_ ?_
  (focus exact blkcBy)
  (focus exact blkcBy)
  (focus (exact belBy))
  intro X1 t_n r_n hX1
  have sX1:=hX1.size
  have t_lt:=t_n.lt
  have r_lt:=r_n.lt
  refine (sTapeOk _ _ _).mono ?_
  rintro e w1 ⟨rfl,hb1⟩
  have s1:=hb1.size
  have hT1:=hX1.trans (hb1.mono sX1)
  have b_1:=b_0.trans (hT1.mono (by omega))
  have t_1:=Blk.past hb1 t_n
  have r_1:=Blk.past hb1 r_n
  clear b_0 t_n r_n hX1 hT1 hb1
  have cell_t:=t_1.cell
  have froz_t:=t_1.frozen
  have lt_t:=t_1.lt
  have cell_r:=r_1.cell
  have froz_r:=r_1.frozen
  have lt_r:=r_1.lt
  go_wp2_with fail
  go_region_held3 (fun w'=>w'.cell? ⟨w.heap.size,0,none⟩=some (.int .i64 s)∧w'.cell? ⟨w.heap.size,1,none⟩=some (.int .i64 a)) ((refine ⟨(Blk.cell (t:=27) (cs:=#[.int .i64 s,.int .i64 a]) ?qt 0),(Blk.cell ?qt 1)⟩; (case qt=>(exact blkBy)))) (fail)
  all_goals
   go_wp2_with fail
   ((try simp only [Exit.inBlock,Exit.then]); apply bodyPost_ret0; focus ((try simp only [results,Tryz.results191]); (try go_simp); (try rfl)))
   refine ⟨rfl,?_⟩
   exact belBy
theorem below_yes {s a n:Int} (h1:inB n 1 65536=true) (h2:tapeGoB s a=true):belowI s a n=keyedI s 7 a / 256 % n∧belowAt s a n=a + 1:=by
 unfold belowI belowAt belowB
 rw [h1,h2]
 exact ⟨rfl,rfl⟩
theorem below_noN {s a n:Int} (h1:inB n 1 65536=false):belowI s a n=0∧belowAt s a n=a:=by
 unfold belowI belowAt belowB
 rw [h1]
 exact ⟨rfl,rfl⟩
theorem below_noT {s a n:Int} (h2:tapeGoB s a=false):belowI s a n=0∧belowAt s a n=a:=by
 unfold belowI belowAt belowB
 rw [h2]
 simp
theorem word_yes {s a:Int} (h2:tapeGoB s a=true):wordI s a=keyedI s 7 a∧wordAt s a=a + 1:=by unfold wordI wordAt; rw [h2]; exact ⟨rfl,rfl⟩
theorem word_no {s a:Int} (h2:tapeGoB s a=false):wordI s a=0∧wordAt s a=a:=by unfold wordI wordAt; rw [h2]; exact ⟨rfl,rfl⟩
theorem go_yes {s a:Int} (h1:tapeOkB s a=true) (h2:(a == 1000000)=false):tapeGoB s a=true:=by unfold tapeGoB; rw [h1,h2]; rfl
theorem go_noO {s a:Int} (h1:tapeOkB s a=false):tapeGoB s a=false:=by unfold tapeGoB; rw [h1]; rfl
theorem go_noE {s a:Int} (h2:(a == 1000000)=true):tapeGoB s a=false:=by unfold tapeGoB; rw [h2]; simp
theorem iTapeWord_yes (s a:Int) (w:World) (h:tapeGoB s a=true) :
  Calls Tryz.prog 189 #[.agg #[.int .i64 s,.int .i64 a]] w fun e w'=>e=.returned (.tuple #[.int .i64 (keyedI s 7 a),.agg #[.int .i64 s,.int .i64 (a + 1)]])∧Below w.heap.size w w':=by
 have h0:=iTapeWord s a w
 rw [(word_yes h).1,(word_yes h).2] at h0
 exact h0
theorem sTapeWord_yes (s a:Int) (w:World) (h:tapeGoB s a=true) :
  Calls Tryz.prog 191 #[.agg #[.int .i64 s,.int .i64 a]] w fun e w'=>e=.returned (.tuple #[.int .i64 (keyedI s 7 a),.agg #[.int .i64 s,.int .i64 (a + 1)]])∧Below w.heap.size w w':=by
 have h0:=sTapeWord s a w
 rw [(word_yes h).1,(word_yes h).2] at h0
 exact h0
theorem sTapeWord_no (s a:Int) (w:World) (h:tapeGoB s a=false) :
  Calls Tryz.prog 191 #[.agg #[.int .i64 s,.int .i64 a]] w fun e w'=>e=.returned (.tuple #[.int .i64 0,.agg #[.int .i64 s,.int .i64 a]])∧Below w.heap.size w w':=by
 have h0:=sTapeWord s a w
 rw [(word_no h).1,(word_no h).2] at h0
 exact h0
theorem zero_tdiv:(0:Int).tdiv 256=0:=by decide
theorem zero_tmod (n:Int):(0:Int).tmod n=0:=by simp
attribute [local go_sem] zero_tdiv zero_tmod
set_option maxHeartbeats 1600000 in
theorem iTapeBelow (s a n:Int) (w:World) :
  Calls Tryz.prog 167 #[.agg #[.int .i64 s,.int .i64 a],.int .i64 n] w fun e w'=>e=.returned (.tuple #[.int .i64 (belowI s a n),.agg #[.int .i64 s,.int .i64 (belowAt s a n)]])∧Below w.heap.size w w':=by
 cases h0:inB n 1 65536
 ·rw [(below_noN h0).1,(below_noN h0).2]
  go_enter Tryz.func167,Tryz.ntmps167
  go_wp2_with (go_at_call 56; refine (iWithin _ _ _ _).mono ?_; rintro e w' ⟨rfl,rfl⟩)
  have b_0:=(Below.refl w.heap.size w)
  have s_0:=b_0.size
  refine wp_forget2 (w0:=w) (B:=w.heap.size) (b0:=w.heap.size) (t0:=27) (c0:=#[.int .i64 s,.int .i64 a]) (b1:=w.heap.size + 1) (t1:=27) (c1:=#[.int .i64 0,.int .i64 0]) ?_ ?_ ?_ ?_
  (focus exact blkcBy)
  (focus exact blkcBy)
  (focus (exact belBy))
  intro w1 t_1 r_1 hX1
  have sX1:=hX1.size
  have t_lt:=t_1.lt
  have r_lt:=r_1.lt
  have b_1:=b_0.trans (hX1.mono (by omega))
  clear b_0 hX1
  have cell_t:=t_1.cell
  have froz_t:=t_1.frozen
  have lt_t:=t_1.lt
  have cell_r:=r_1.cell
  have froz_r:=r_1.frozen
  have lt_r:=r_1.lt
  go_wp2_with fail
  go_region_held3 (fun w'=>w'.cell? ⟨w.heap.size,0,none⟩=some (.int .i64 s)∧w'.cell? ⟨w.heap.size,1,none⟩=some (.int .i64 a)) ((refine ⟨(Blk.cell (t:=27) (cs:=#[.int .i64 s,.int .i64 a]) ?qt 0),(Blk.cell ?qt 1)⟩; (case qt=>(exact blkBy)))) (fail)
  all_goals
   go_wp2_with fail
   ((try simp only [Exit.inBlock,Exit.then]); apply bodyPost_ret0; focus ((try simp only [results,Tryz.results167]); (try go_simp); (try rfl)))
   refine ⟨rfl,?_⟩
   exact belBy
 obtain ⟨n0,n1⟩:=inB_iff.1 h0
 have hn0:¬ (n=0):=by omega
 cases h1:tapeOkB s a; rotate_left
 cases h2:(a == 1000000)
 ·have hg:=go_yes h1 h2
  rw [(below_yes h0 hg).1,(below_yes h0 hg).2]
  have HG:=hid hg
  clear hg
  obtain ⟨hr0,hr1⟩:=tapeOkB_range h1
  go_enter Tryz.func167,Tryz.ntmps167
  go_wp2_with (go_at_call 56; refine (iWithin _ _ _ _).mono ?_; rintro e w' ⟨rfl,rfl⟩)
  have b_0:=(Below.refl w.heap.size w)
  have s_0:=b_0.size
  go_wp2_with fail
  refine calls_forget2 (W:=w) (b0:=w.heap.size) (t0:=27) (c0:=#[.int .i64 s,.int .i64 a]) (b1:=w.heap.size + 1) (t1:=27) (c1:=#[.int .i64 0,.int .i64 0]) ?_ ?_ ?_ ?_
  (focus exact blkcBy)
  (focus exact blkcBy)
  (focus (exact belBy))
  intro X1 t_n r_n hX1
  have sX1:=hX1.size
  have t_lt:=t_n.lt
  have r_lt:=r_n.lt
  refine (iTapeOk _ _ _).mono ?_
  rintro e w1 ⟨rfl,hb1⟩
  have s1:=hb1.size
  have hT1:=hX1.trans (hb1.mono sX1)
  have b_1:=b_0.trans (hT1.mono (by omega))
  have t_1:=Blk.past hb1 t_n
  have r_1:=Blk.past hb1 r_n
  clear b_0 t_n r_n hX1 hT1 hb1
  have cell_t:=t_1.cell
  have froz_t:=t_1.frozen
  have lt_t:=t_1.lt
  have cell_r:=r_1.cell
  have froz_r:=r_1.frozen
  have lt_r:=r_1.lt
  go_wp2_with fail
  refine calls_forget0 (W:=w1) ?_ ?_
  (focus (exact belBy))
  intro X2 hX2
  have sX2:=hX2.size
  refine (iTapeWord_yes _ _ _ HG.out).mono ?_
  rintro e w2 ⟨rfl,hb2⟩
  have s2:=hb2.size
  have hT2:=hX2.trans (hb2.mono sX2)
  have b_2:=b_1.trans (hT2.mono (by omega))
  have t_2:=Blk.past hT2 t_1
  have r_2:=Blk.past hT2 r_1
  clear t_1 r_1 b_1 cell_t froz_t lt_t cell_r froz_r lt_r hX2 hT2 hb2
  have cell_t:=t_2.cell
  have froz_t:=t_2.frozen
  have lt_t:=t_2.lt
  have cell_r:=r_2.cell
  have froz_r:=r_2.frozen
  have lt_r:=r_2.lt
  go_wp2_with fail
  refine wp_forget1 (w0:=w2) (B:=w2.heap.size) (b0:=w2.heap.size) (t0:=27) (c0:=#[.int .i64 s,.int .i64 (a + 1)]) ?_ ?_ ?_
  (focus exact blkcBy)
  (focus (exact belBy))
  intro w3 nx_3 hX3
  have sX3:=hX3.size
  have nx_lt:=nx_3.lt
  have b_3:=b_2.trans (hX3.mono (by omega))
  have t_3:=Blk.past hX3 t_2
  have r_3:=Blk.past hX3 r_2
  clear t_2 r_2 b_2 cell_t froz_t lt_t cell_r froz_r lt_r hX3
  have cell_t:=t_3.cell
  have froz_t:=t_3.frozen
  have lt_t:=t_3.lt
  have cell_r:=r_3.cell
  have froz_r:=r_3.frozen
  have lt_r:=r_3.lt
  have cell_nx:=nx_3.cell
  have froz_nx:=nx_3.frozen
  have lt_nx:=nx_3.lt
  go_wp2_with fail
  go_region_held3 (fun w'=>w'.cell? ⟨w2.heap.size,0,none⟩=some (.int .i64 s)∧w'.cell? ⟨w2.heap.size,1,none⟩=some (.int .i64 (a + 1))) ((refine ⟨(Blk.cell (t:=27) (cs:=#[.int .i64 s,.int .i64 (a + 1)]) ?qnx 0),(Blk.cell ?qnx 1)⟩; (case qnx=>(exact blkBy)))) (fail)
  all_goals
   go_wp2_with fail
   ((try simp only [Exit.inBlock,Exit.then]); apply bodyPost_ret0; focus ((try simp only [results,Tryz.results167]); (try go_simp); (try rfl)))
   refine ⟨rfl,?_⟩
   exact belBy
 all_goals
  have hg:tapeGoB s a=false:=by first | exact go_noO h1 | exact go_noE h2
  rw [(below_noT hg).1,(below_noT hg).2]
  clear hg
  go_enter Tryz.func167,Tryz.ntmps167
  go_wp2_with (go_at_call 56; refine (iWithin _ _ _ _).mono ?_; rintro e w' ⟨rfl,rfl⟩)
  have b_0:=(Below.refl w.heap.size w)
  have s_0:=b_0.size
  go_wp2_with fail
  refine calls_forget2 (W:=w) (b0:=w.heap.size) (t0:=27) (c0:=#[.int .i64 s,.int .i64 a]) (b1:=w.heap.size + 1) (t1:=27) (c1:=#[.int .i64 0,.int .i64 0]) ?_ ?_ ?_ ?_
  (focus exact blkcBy)
  (focus exact blkcBy)
  (focus (exact belBy))
  intro X1 t_n r_n hX1
  have sX1:=hX1.size
  have t_lt:=t_n.lt
  have r_lt:=r_n.lt
  refine (iTapeOk _ _ _).mono ?_
  rintro e w1 ⟨rfl,hb1⟩
  have s1:=hb1.size
  have hT1:=hX1.trans (hb1.mono sX1)
  have b_1:=b_0.trans (hT1.mono (by omega))
  have t_1:=Blk.past hb1 t_n
  have r_1:=Blk.past hb1 r_n
  clear b_0 t_n r_n hX1 hT1 hb1
  have cell_t:=t_1.cell
  have froz_t:=t_1.frozen
  have lt_t:=t_1.lt
  have cell_r:=r_1.cell
  have froz_r:=r_1.frozen
  have lt_r:=r_1.lt
  go_wp2_with fail
  go_region_held3 (fun w'=>w'.cell? ⟨w.heap.size,0,none⟩=some (.int .i64 s)∧w'.cell? ⟨w.heap.size,1,none⟩=some (.int .i64 a)) ((refine ⟨(Blk.cell (t:=27) (cs:=#[.int .i64 s,.int .i64 a]) ?qt 0),(Blk.cell ?qt 1)⟩; (case qt=>(exact blkBy)))) (fail)
  all_goals
   go_wp2_with fail
   ((try simp only [Exit.inBlock,Exit.then]); apply bodyPost_ret0; focus ((try simp only [results,Tryz.results167]); (try go_simp); (try rfl)))
   refine ⟨rfl,?_⟩
   exact belBy
set_option maxHeartbeats 1600000 in
theorem sTapeBelow (s a n:Int) (w:World) :
  Calls Tryz.prog 179 #[.agg #[.int .i64 s,.int .i64 a],.int .i64 n] w fun e w'=>e=.returned (.tuple #[.int .i64 (belowI s a n),.agg #[.int .i64 s,.int .i64 (belowAt s a n)]])∧Below w.heap.size w w':=by
 cases h0:inB n 1 65536
 ·rw [(below_noN h0).1,(below_noN h0).2]
  go_enter Tryz.func179,Tryz.ntmps179
  go_wp2_with (go_at_call 123; refine (sWithin _ _ _ _).mono ?_; rintro e w' ⟨rfl,rfl⟩)
  have b_0:=(Below.refl w.heap.size w)
  have s_0:=b_0.size
  refine wp_forget2 (w0:=w) (B:=w.heap.size) (b0:=w.heap.size) (t0:=27) (c0:=#[.int .i64 s,.int .i64 a]) (b1:=w.heap.size + 1) (t1:=27) (c1:=#[.int .i64 0,.int .i64 0]) ?_ ?_ ?_ ?_
  (focus exact blkcBy)
  (focus exact blkcBy)
  (focus (exact belBy))
  intro w1 t_1 r_1 hX1
  have sX1:=hX1.size
  have t_lt:=t_1.lt
  have r_lt:=r_1.lt
  have b_1:=b_0.trans (hX1.mono (by omega))
  clear b_0 hX1
  have cell_t:=t_1.cell
  have froz_t:=t_1.frozen
  have lt_t:=t_1.lt
  have cell_r:=r_1.cell
  have froz_r:=r_1.frozen
  have lt_r:=r_1.lt
  go_wp2_with fail
  go_region_held3 (fun w'=>w'.cell? ⟨w.heap.size,0,none⟩=some (.int .i64 s)∧w'.cell? ⟨w.heap.size,1,none⟩=some (.int .i64 a)) ((refine ⟨(Blk.cell (t:=27) (cs:=#[.int .i64 s,.int .i64 a]) ?qt 0),(Blk.cell ?qt 1)⟩; (case qt=>(exact blkBy)))) (fail)
  all_goals
   go_wp2_with fail
   ((try simp only [Exit.inBlock,Exit.then]); apply bodyPost_ret0; focus ((try simp only [results,Tryz.results179]); (try go_simp); (try rfl)))
   refine ⟨rfl,?_⟩
   exact belBy
 obtain ⟨n0,n1⟩:=inB_iff.1 h0
 have hn0:¬ (n=0):=by omega
 cases hg:tapeGoB s a
 ·rw [(below_noT hg).1,(below_noT hg).2]
  have HG:=hid hg
  clear hg
  go_enter Tryz.func179,Tryz.ntmps179
  go_wp2_with (go_at_call 123; refine (sWithin _ _ _ _).mono ?_; rintro e w' ⟨rfl,rfl⟩)
  have b_0:=(Below.refl w.heap.size w)
  have s_0:=b_0.size
  go_wp2_with fail
  refine calls_forget2 (W:=w) (b0:=w.heap.size) (t0:=27) (c0:=#[.int .i64 s,.int .i64 a]) (b1:=w.heap.size + 1) (t1:=27) (c1:=#[.int .i64 0,.int .i64 0]) ?_ ?_ ?_ ?_
  (focus exact blkcBy)
  (focus exact blkcBy)
  (focus (exact belBy))
  intro X1 t_n r_n hX1
  have sX1:=hX1.size
  have t_lt:=t_n.lt
  have r_lt:=r_n.lt
  refine (sTapeWord_no _ _ _ HG.out).mono ?_
  rintro e w1 ⟨rfl,hb1⟩
  have s1:=hb1.size
  have hT1:=hX1.trans (hb1.mono sX1)
  have b_1:=b_0.trans (hT1.mono (by omega))
  have t_1:=Blk.past hb1 t_n
  have r_1:=Blk.past hb1 r_n
  clear b_0 t_n r_n hX1 hT1 hb1
  have cell_t:=t_1.cell
  have froz_t:=t_1.frozen
  have lt_t:=t_1.lt
  have cell_r:=r_1.cell
  have froz_r:=r_1.frozen
  have lt_r:=r_1.lt
  go_wp2_with fail
  refine wp_forget1 (w0:=w1) (B:=w1.heap.size) (b0:=w1.heap.size) (t0:=27) (c0:=#[.int .i64 s,.int .i64 a]) ?_ ?_ ?_
  (focus exact blkcBy)
  (focus (exact belBy))
  intro w2 nx_2 hX2
  have sX2:=hX2.size
  have nx_lt:=nx_2.lt
  have b_2:=b_1.trans (hX2.mono (by omega))
  have t_2:=Blk.past hX2 t_1
  have r_2:=Blk.past hX2 r_1
  clear t_1 r_1 b_1 cell_t froz_t lt_t cell_r froz_r lt_r hX2
  have cell_t:=t_2.cell
  have froz_t:=t_2.frozen
  have lt_t:=t_2.lt
  have cell_r:=r_2.cell
  have froz_r:=r_2.frozen
  have lt_r:=r_2.lt
  have cell_nx:=nx_2.cell
  have froz_nx:=nx_2.frozen
  have lt_nx:=nx_2.lt
  go_wp2_with fail
  go_region_held3 (fun w'=>w'.cell? ⟨w1.heap.size,0,none⟩=some (.int .i64 s)∧w'.cell? ⟨w1.heap.size,1,none⟩=some (.int .i64 a)) ((refine ⟨(Blk.cell (t:=27) (cs:=#[.int .i64 s,.int .i64 a]) ?qnx 0),(Blk.cell ?qnx 1)⟩; (case qnx=>(exact blkBy)))) (fail)
  all_goals
   go_wp2_with fail
   ((try simp only [Exit.inBlock,Exit.then]); apply bodyPost_ret0; focus ((try simp only [results,Tryz.results179]); (try go_simp); (try rfl)))
   refine ⟨rfl,?_⟩
   exact belBy
 ·rw [(below_yes h0 hg).1,(below_yes h0 hg).2]
  have HG:=hid hg
  clear hg
  go_enter Tryz.func179,Tryz.ntmps179
  go_wp2_with (go_at_call 123; refine (sWithin _ _ _ _).mono ?_; rintro e w' ⟨rfl,rfl⟩)
  have b_0:=(Below.refl w.heap.size w)
  have s_0:=b_0.size
  go_wp2_with fail
  refine calls_forget2 (W:=w) (b0:=w.heap.size) (t0:=27) (c0:=#[.int .i64 s,.int .i64 a]) (b1:=w.heap.size + 1) (t1:=27) (c1:=#[.int .i64 0,.int .i64 0]) ?_ ?_ ?_ ?_
  (focus exact blkcBy)
  (focus exact blkcBy)
  (focus (exact belBy))
  intro X1 t_n r_n hX1
  have sX1:=hX1.size
  have t_lt:=t_n.lt
  have r_lt:=r_n.lt
  refine (sTapeWord_yes _ _ _ HG.out).mono ?_
  rintro e w1 ⟨rfl,hb1⟩
  have s1:=hb1.size
  have hT1:=hX1.trans (hb1.mono sX1)
  have b_1:=b_0.trans (hT1.mono (by omega))
  have t_1:=Blk.past hb1 t_n
  have r_1:=Blk.past hb1 r_n
  clear b_0 t_n r_n hX1 hT1 hb1
  have cell_t:=t_1.cell
  have froz_t:=t_1.frozen
  have lt_t:=t_1.lt
  have cell_r:=r_1.cell
  have froz_r:=r_1.frozen
  have lt_r:=r_1.lt
  go_wp2_with fail
  refine wp_forget1 (w0:=w1) (B:=w1.heap.size) (b0:=w1.heap.size) (t0:=27) (c0:=#[.int .i64 s,.int .i64 (a + 1)]) ?_ ?_ ?_
  (focus exact blkcBy)
  (focus (exact belBy))
  intro w2 nx_2 hX2
  have sX2:=hX2.size
  have nx_lt:=nx_2.lt
  have b_2:=b_1.trans (hX2.mono (by omega))
  have t_2:=Blk.past hX2 t_1
  have r_2:=Blk.past hX2 r_1
  clear t_1 r_1 b_1 cell_t froz_t lt_t cell_r froz_r lt_r hX2
  have cell_t:=t_2.cell
  have froz_t:=t_2.frozen
  have lt_t:=t_2.lt
  have cell_r:=r_2.cell
  have froz_r:=r_2.frozen
  have lt_r:=r_2.lt
  have cell_nx:=nx_2.cell
  have froz_nx:=nx_2.frozen
  have lt_nx:=nx_2.lt
  go_wp2_with fail
  go_region_held3 (fun w'=>w'.cell? ⟨w1.heap.size,0,none⟩=some (.int .i64 s)∧w'.cell? ⟨w1.heap.size,1,none⟩=some (.int .i64 (a + 1))) ((refine ⟨(Blk.cell (t:=27) (cs:=#[.int .i64 s,.int .i64 (a + 1)]) ?qnx 0),(Blk.cell ?qnx 1)⟩; (case qnx=>(exact blkBy)))) (fail)
  all_goals
   go_wp2_with fail
   ((try simp only [Exit.inBlock,Exit.then]); apply bodyPost_ret0; focus ((try simp only [results,Tryz.results179]); (try go_simp); (try rfl)))
   refine ⟨rfl,?_⟩
   exact belBy
open Go.RowKit
theorem infoInt:(Tryz.prog.info? 3).map (fun i=>(i.zero,i.size,i.bytes))=some (some (.int .i64 0),1,8):=by kernel_rfl
def copyTo (xs:List Int) (k:Nat):List Value:=ints (xs.take k) ++ List.replicate (xs.length - k) (.int .i64 0)
theorem copyTo_zero (xs:List Int):copyTo xs 0=List.replicate xs.length (.int .i64 0):=by simp [copyTo,ints]
theorem copyTo_all (xs:List Int):copyTo xs xs.length=ints xs:=by simp [copyTo]
theorem copyTo_set {xs:List Int} {k:Nat} {x:Int} (h:xs[k]? = some x):(copyTo xs k).set k (.int .i64 x)=copyTo xs (k + 1):=by
 have hk:k < xs.length:=(List.getElem?_eq_some_iff.1 h).1
 have e:xs.length - k=(xs.length - (k + 1)) + 1:=by omega
 unfold copyTo
 rw [take_snoc h,ints_snoc,e,List.replicate_succ,List.set_append_right _ _ (by simp [ints]; omega)]
 simp [ints,Nat.min_eq_left (Nat.le_of_lt hk)]
def markTo (k:Int) (vs:List Value) (j:Nat):List Value:=ints (marks k j) ++ vs.drop j
theorem markTo_zero (k:Int) (vs:List Value):markTo k vs 0=vs:=by simp [markTo,ints,marks]
theorem markTo_all (k:Int) (vs:List Value) (n:Nat) (h:vs.length=n):markTo k vs n=ints (marks k n):=by simp [markTo,←h]
theorem markTo_set {k:Int} {vs:List Value} {j:Nat} (h:j < vs.length):(markTo k vs j).set j (.int .i64 (k + j))=markTo k vs (j + 1):=by
 unfold markTo
 have e:vs.drop j=vs[j] :: vs.drop (j + 1):=List.drop_eq_getElem_cons h
 rw [e,List.set_append_right _ _ (by rw [ints_length,marks_length]; omega),ints_length,marks_length,Nat.sub_self,List.set_cons_zero]
 show _=ints (marks k j ++ [k + j]) ++ _
 rw [ints_snoc,List.append_assoc]
 rfl
def GivesInts (w:World) (xs:List Int) (e:Ending) (w':World):Prop :=
 ∃ A c,e=.returned (.slice A xs.length c)∧w'.ownsRow w.heap.size 3 1 (.slice A xs.length c) xs.length (ints xs)∧Below w.heap.size w w'
theorem toIntS_any (A:Option Addr) (c:Nat) (xs:List Int) (w:World) (hc:Cells w w.heap.size A (ints xs)) (hn:xs.length≤1048576) :
  Calls Tryz.prog 71 #[.slice A xs.length c] w fun e w'=>e=.returned (.slice (some ⟨w.heap.size,0,none⟩) xs.length xs.length) ∧
   w'.ownsRow w.heap.size 3 1 (.slice (some ⟨w.heap.size,0,none⟩) xs.length xs.length) xs.length (ints xs)∧Below w.heap.size w w':=by
 obtain ⟨i0,hi,hz0,hz1,hz2⟩:=info_parts infoInt
 go_enter Tryz.func71,Tryz.ntmps71
 go_wp2_with (at_make; refine wpList_make_full _ rfl _ _ 30 rfl w.heap.size 3 i0 (.int .i64 0) 1 Tryz.underlying30 hi hz0 hz1 _ _ _ _ xs.length rfl rfl rfl rfl (by rw [hz2]; omega) (by unfold maxLen; omega) (Nat.le_refl _) ?_)
 intro w1 hown1 hg1
 have hb1:Below w.heap.size w w1:=(Below.refl _ _).grown hg1 (Nat.le_refl _) (fun k hk=>by cases hk)
 have hsz1:=hb1.size
 have hL:(madeCells #[Value.int IntKind.i64 0] xs.length).toList=copyTo xs 0:=by
  rw [copyTo_zero]; exact toList_madeCells_one _ _
 rw [hL] at hown1
 clear hL hg1 hi hz0 hz1 hz2
 go_wp2
 go_loopw [4] (fun i wr=>∃ k:Nat,k≤xs.length∧i=.int .i64 k∧wr.ownsRow w.heap.size 3 1 (.slice (some ⟨w.heap.size,0,none⟩) xs.length xs.length) xs.length (copyTo xs k)∧Below w.heap.size w wr) (fun i _=>xs.length - (intOf i).toNat)
 case atStart=>exact ⟨0,Nat.zero_le _,rfl,hown1,hb1⟩
 case round =>
  obtain ⟨k,hk,rfl,hown,hb⟩:=hrel
  by_cases hlt:k < xs.length
  ·obtain ⟨x,hx⟩:∃ x,xs[k]? = some x:=⟨_,List.getElem?_eq_getElem hlt⟩
   obtain ⟨b,off,rfl,hB,hcl⟩:=hc (by rw [ints_length]; omega)
   have hcell:wr.cell? ⟨b,off + k,none⟩=some (.int .i64 x):=(hb.cell (p:=⟨b,off + k,none⟩) hB).trans (hcl k _ (ints_get hx))
   have hold:∃ u,wr.cell? ⟨w.heap.size,k,none⟩=some u:=by
    rw [hown.cellAt k (by omega)]
    have:=hown.1
    exact ⟨_,List.getElem?_eq_getElem (by omega)⟩
   obtain ⟨u,hu⟩:=hold
   have hfr:=hown.frozenAt k
   have hst:=hown.stored k (.int .i64 x)
   rw [copyTo_set hx] at hst
   have HS:=hid hst
   have HB:=hid hb
   clear hcl hst hown hown1 hc hb hx
   go_wp2
   go_roundw
   case rel=>exact ⟨k + 1,by omega,by go_num,HS.out.1,HB.out.setCell (Nat.le_refl _) _⟩
   case measure=>simp [intOf]; omega
  ·obtain rfl:k=xs.length:=by omega
   rw [copyTo_all] at hown
   go_wp2
   go_ret
   exact ⟨rfl,hown,hb⟩
theorem eqIntS_same (A B:Option Addr) (c d:Nat) (xs:List Int) (w:World) (ha:Cells w w.heap.size A (ints xs)) (hc:Cells w w.heap.size B (ints xs)) (hn:xs.length≤1000000000) :
  Calls Tryz.prog 27 #[.slice A xs.length c,.slice B xs.length d] w fun e w'=>e=.returned (.bool true)∧Below w.heap.size w w':=by
 go_enter Tryz.func27,Tryz.ntmps27
 go_wp2
 go_loopw [5] (fun i wr=>∃ k:Nat,k≤xs.length∧i=.int .i64 k∧Below w.heap.size w wr) (fun i _=>xs.length - (intOf i).toNat)
 case atStart=>exact ⟨0,Nat.zero_le _,rfl,Below.refl _ _⟩
 case round =>
  obtain ⟨k,hk,rfl,hb⟩:=hrel
  by_cases hlt:k < xs.length
  ·obtain ⟨x,hx⟩:∃ x,xs[k]? = some x:=⟨_,List.getElem?_eq_getElem hlt⟩
   obtain ⟨b,off,rfl,hB,hcl⟩:=ha (by rw [ints_length]; omega)
   obtain ⟨b',off',rfl,hB',hcl'⟩:=hc (by rw [ints_length]; omega)
   have hcell:wr.cell? ⟨b,off + k,none⟩=some (.int .i64 x):=(hb.cell (p:=⟨b,off + k,none⟩) hB).trans (hcl k _ (ints_get hx))
   have hcell':wr.cell? ⟨b',off' + k,none⟩=some (.int .i64 x):=(hb.cell (p:=⟨b',off' + k,none⟩) hB').trans (hcl' k _ (ints_get hx))
   have HB:=hid hb
   have hlt':(k:Int) < (xs.length:Int):=by omega
   clear hcl hcl' ha hc hb hx
   go_wp2
   go_quiet (fail)
   go_wp2
   go_roundw
   case rel=>exact ⟨k + 1,by omega,by go_num,⟨HB.out.os,HB.out.tape,HB.out.output,HB.out.size,HB.out.block⟩⟩
   case measure=>simp [intOf]; omega
  ·obtain rfl:k=xs.length:=by omega
   go_wp2
   go_ret
   exact ⟨rfl,hb⟩
theorem heldIntS_any (A:Option Addr) (c n:Nat) (k:Int) (w:World) (ha:Cells w w.heap.size A (ints (marks k n))) (hn:n≤1000000000) (h0:0≤k) (h1:k≤1000000000000) :
  Calls Tryz.prog 33 #[.slice A n c,.int .i64 k] w fun e w'=>e=.returned (.int .i64 (k + n))∧w=w':=by
 go_enter Tryz.func33,Tryz.ntmps33
 go_wp2
 go_loop [1,5] (fun q i=>∃ j:Nat,j≤n∧i=.int .i64 j∧q=.int .i64 (k + j)) (fun _ i=>n - (intOf i).toNat)
 case atStart=>exact ⟨0,Nat.zero_le _,rfl,by simp⟩
 case round =>
  obtain ⟨j,hj,rfl,rfl⟩:=hrel
  by_cases hlt:j < n
  ·obtain ⟨b,off,rfl,hB,hcl⟩:=ha (by rw [ints_length,marks_length]; omega)
   have hcell:w.cell? ⟨b,off + j,none⟩=some (.int .i64 (k + j)):=hcl j _ (ints_get (marks_get k n j hlt))
   clear hcl ha
   go_wp2
   go_round
   case rel=>exact ⟨j + 1,by omega,by go_num,by go_num⟩
   case measure=>simp [intOf]; omega
  ·obtain rfl:j=n:=by omega
   go_wp2
   go_ret
   exact ⟨rfl,rfl⟩
theorem markIntS_any (base:Nat) (A:Option Addr) (c n:Nat) (vs:List Value) (k:Int) (w:World) (hown:w.ownsRow base 3 1 (.slice A n c) n vs) (hn:n≤1000000000) (h0:0≤k) (h1:k≤1000000000000) :
  Calls Tryz.prog 32 #[.slice A n c,.int .i64 k] w fun e w'=>e=.returned (.int .i64 (k + n)) ∧
   w'.ownsRow base 3 1 (.slice A n c) n (ints (marks k n))∧w.grownBy w' (Value.slice A n c).ownBlock:=by
 have hlen:vs.length=n:=by simpa using hown.1
 rcases hown.2 with ⟨hv,rfl⟩ | ⟨g,cap,cur,hv,_⟩
 ·injection hv with hA _ hcc
  subst hA hcc
  have HO:=hid hown
  clear hown
  go_enter Tryz.func32,Tryz.ntmps32
  go_wp2
  refine wp_loop_rounds 1 ?_
  rw [rounds_succ]
  go_wp2
  go_ret
  exact ⟨by simp,by simpa [marks,ints] using World.ownsRow_nil _ _ _ _,World.grownBy.refl _ _⟩
 ·injection hv with hA _ hcc
  subst hA hcc
  go_enter Tryz.func32,Tryz.ntmps32
  go_wp2
  go_loopw [1,5] (fun q i wr=>∃ j:Nat,j≤n∧i=.int .i64 j∧q=.int .i64 (k + j)∧wr.ownsRow base 3 1 (.slice (some ⟨g,0,none⟩) n c) n (markTo k vs j)∧w.grownBy wr (some g)) (fun _ i _=>n - (intOf i).toNat)
  case atStart=>exact ⟨0,Nat.zero_le _,rfl,by simp,by rw [markTo_zero]; exact hown,World.grownBy.refl _ _⟩
  case round =>
   obtain ⟨j,hj,rfl,rfl,how,hg⟩:=hrel
   by_cases hlt:j < n
   ·have hold:∃ u,wr.cell? ⟨g,j,none⟩=some u:=by
     rw [how.cellAt j (by omega)]
     have:=how.1
     exact ⟨_,List.getElem?_eq_getElem (by omega)⟩
    obtain ⟨u,hu⟩:=hold
    have hfr:=how.frozenAt j
    have hst:=how.stored j (.int .i64 (k + j))
    rw [markTo_set (by omega)] at hst
    have hst2:w.grownBy (wr.setCell ⟨g,j,none⟩ (.int .i64 (k + j))) (some g) :=
     ⟨hst.2.os.trans hg.os,hst.2.tape.trans hg.tape,hst.2.output.trans hg.output,Nat.le_trans hg.size hst.2.size,fun i hi hne=>(hst.2.block i (Nat.lt_of_lt_of_le hi hg.size) hne).trans (hg.block i hi hne)⟩
    have HS:=hid hst
    have HG:=hid hst2
    clear hst hst2 how hown hg
    go_wp2
    go_roundw
    case rel=>exact ⟨j + 1,by omega,by go_num,by go_num,HS.out.1,HG.out⟩
    case measure=>simp [intOf]; omega
   ·obtain rfl:j=n:=by omega
    rw [markTo_all _ _ _ hlen] at how
    go_wp2
    go_ret
    exact ⟨rfl,how,hg⟩
theorem szIntS_any (A:Option Addr) (c n:Nat) (left:Int) (w:World) (hn:n≤9223372036854775807) (h0:0≤left) (h1:left≤1048576) :
  Calls Tryz.prog 66 #[.slice A n c,.int .i64 left] w fun e w'=>e=.returned (.int .i64 (pick (decide (left - n < 0)) (-1) (left - n)))∧w=w':=by
 by_cases hlt:left - n < 0
 all_goals
  simp only [hlt,decide_true,decide_false,pick_yes,pick_no]
  go_enter Tryz.func66,Tryz.ntmps66
  go_wp2
  go_ret
  exact ⟨rfl,rfl⟩
open Go.RowKit
def labelB (x:Int):Bool:=inB x 0 65535
theorem labelB_iff {x:Int}:labelB x=true↔0≤x∧x≤65535:=inB_iff
theorem below_label (s a n:Int):labelB (belowI s a n)=true:=inB_iff.2 (belowI_range s a n)
theorem xor_label {a b:Int} (ha:labelB a=true) (hb:labelB b=true):labelB (bits .xor .i64 a b)=true:=by
 obtain ⟨a0,a1⟩:=labelB_iff.1 ha
 obtain ⟨b0,b1⟩:=labelB_iff.1 hb
 obtain ⟨x,rfl⟩:=Int.eq_ofNat_of_zero_le a0
 obtain ⟨y,rfl⟩:=Int.eq_ofNat_of_zero_le b0
 rw [xor_nat x y (by omega) (by omega)]
 have h:x ^^^ y < 2 ^ 16:=Nat.xor_lt_two_pow (by omega) (by omega)
 exact labelB_iff.2 (by omega)
theorem xor_zero {a:Int} (ha:labelB a=true):bits .xor .i64 a 0=a:=by
 obtain ⟨a0,a1⟩:=labelB_iff.1 ha
 obtain ⟨x,rfl⟩:=Int.eq_ofNat_of_zero_le a0
 have h:=xor_nat x 0 (by omega) (by omega)
 rw [Nat.xor_zero] at h
 exact h
def zeroI (s k:Int):Int:=belowI (keyedI s 9 k) 0 65536
def deltaI (s a:Int):Int:=bits .or .i64 (belowI s a 65536) 1
theorem zero_label (s k:Int):labelB (zeroI s k)=true:=below_label _ _ _
theorem delta_label (s a:Int):labelB (deltaI s a)=true:=by
 unfold deltaI
 obtain ⟨a0,a1⟩:=labelB_iff.1 (below_label s a 65536)
 obtain ⟨x,hx⟩:=Int.eq_ofNat_of_zero_le a0
 rw [hx] at a1 ⊢
 have e:=or_nat x 1 (by omega) (by omega)
 have h:x ||| 1 < 2 ^ 16:=Nat.or_lt_two_pow (by omega) (by omega)
 rw [show (1:Int)=((1:Nat):Int) from rfl,e]
 exact labelB_iff.2 (by omega)
def lblI (z d v:Int):Int:=pick (v == 1) (bits .xor .i64 z d) z
theorem lbl_label {z d:Int} (v:Int) (hz:labelB z=true) (hd:labelB d=true):labelB (lblI z d v)=true:=by
 unfold lblI
 cases v == 1
 ·exact hz
 ·exact xor_label hz hd
theorem bit_cases {v:Int} (h:inB v 0 1=true):v=0∨v=1:=by
 have:=inB_iff.1 h
 omega
def bitsB (xs:List Int):Bool:=xs.all fun x=>inB x 0 1
theorem bitsB_no {xs:List Int} {k:Nat} {x:Int} (h:xs[k]? = some x) (hx:inB x 0 1=false):bitsB xs=false:=by
 unfold bitsB
 rw [List.all_eq_false]
 exact ⟨x,List.mem_of_getElem? h,by simp [hx]⟩
theorem bitsB_snoc {xs:List Int} {k:Nat} {x:Int} (h:xs[k]? = some x) (hw:bitsB (xs.take k)=true) (hx:inB x 0 1=true):bitsB (xs.take (k + 1))=true:=by
 rw [take_snoc h]
 unfold bitsB at *
 simp [hw,hx,List.all_append]
theorem bitsB_get {xs:List Int} {k:Nat} {x:Int} (h:bitsB xs=true) (hk:xs[k]? = some x):inB x 0 1=true:=by
 unfold bitsB at h
 rw [List.all_eq_true] at h
 exact h x (List.mem_of_getElem? hk)
def labsTo (s a:Int) (bs:List Int):Nat→List Int
 | 0=>[]
 | j + 1=>labsTo s a bs j ++ [lblI (zeroI s j) (deltaI s a) (bs.getD j 0)]
theorem labsTo_length (s a:Int) (bs:List Int) (j:Nat):(labsTo s a bs j).length=j:=by
 induction j with
 | zero=>rfl
 | succ j ih=>simp [labsTo,ih]
theorem labsTo_succ {s a:Int} {bs:List Int} {j:Nat} {x:Int} (h:bs[j]? = some x):labsTo s a bs (j + 1)=labsTo s a bs j ++ [lblI (zeroI s j) (deltaI s a) x]:=by
 rw [labsTo,List.getD_eq_getElem?_getD,h]
 rfl
theorem iIsLabel (x:Int) (w:World):Calls Tryz.prog 172 #[.int .i64 x] w fun e w'=>e=.returned (.bool (labelB x))∧w=w':=by
 go_enter Tryz.func172,Tryz.ntmps172
 go_wp2_with (go_at_call 56; refine (iWithin _ _ _ _).mono ?_; rintro e w' ⟨rfl,rfl⟩)
 go_ret
 exact ⟨rfl,rfl⟩
set_option maxHeartbeats 800000 in
theorem iTapeFork (s a k:Int) (w:World) (h1:tapeOkB s a=true) (h2:inB k 0 1000000=true) :
  Calls Tryz.prog 14 #[.agg #[.int .i64 s,.int .i64 a],.int .i64 k] w fun e w'=>e=.returned (.agg #[.int .i64 (keyedI s 9 k),.int .i64 0])∧Below w.heap.size w w':=by
 go_enter Tryz.func14,Tryz.ntmps14
 have b_0:=(Below.refl w.heap.size w)
 have s_0:=b_0.size
 go_wp2_with fail
 refine calls_forget2 (W:=w) (b0:=w.heap.size) (t0:=27) (c0:=#[.int .i64 s,.int .i64 a]) (b1:=w.heap.size + 1) (t1:=27) (c1:=#[.int .i64 0,.int .i64 0]) ?_ ?_ ?_ ?_
 (focus exact blkcBy)
 (focus exact blkcBy)
 (focus (exact belBy))
 intro X1 t_n r_n hX1
 have sX1:=hX1.size
 have t_lt:=t_n.lt
 have r_lt:=r_n.lt
 refine (iTapeOk _ _ _).mono ?_
 rintro e w1 ⟨rfl,hb1⟩
 have s1:=hb1.size
 have hT1:=hX1.trans (hb1.mono sX1)
 have b_1:=b_0.trans (hT1.mono (by omega))
 have t_1:=Blk.past hb1 t_n
 have r_1:=Blk.past hb1 r_n
 clear b_0 t_n r_n hX1 hT1 hb1
 have cell_t:=t_1.cell
 have froz_t:=t_1.frozen
 have lt_t:=t_1.lt
 have cell_r:=r_1.cell
 have froz_r:=r_1.frozen
 have lt_r:=r_1.lt
 go_wp2_with fail
 refine calls_forget0 (W:=w1) ?_ ?_
 (focus (exact belBy))
 intro X2 hX2
 have sX2:=hX2.size
 refine (iWithin _ _ _ _).mono ?_
 rintro e w' ⟨rfl,rfl⟩
 have b_2:=b_1.trans (hX2.mono (by omega))
 have t_2:=Blk.past hX2 t_1
 have r_2:=Blk.past hX2 r_1
 clear t_1 r_1 b_1 cell_t froz_t lt_t cell_r froz_r lt_r hX2
 have cell_t:=t_2.cell
 have froz_t:=t_2.frozen
 have lt_t:=t_2.lt
 have cell_r:=r_2.cell
 have froz_r:=r_2.frozen
 have lt_r:=r_2.lt
 go_wp2_with fail
 refine calls_forget0 (W:=X2) ?_ ?_
 (focus (exact belBy))
 intro X3 hX3
 have sX3:=hX3.size
 refine (iKeyed _ _ _ _).mono ?_
 rintro e w' ⟨rfl,rfl⟩
 have b_3:=b_2.trans (hX3.mono (by omega))
 have t_3:=Blk.past hX3 t_2
 have r_3:=Blk.past hX3 r_2
 clear t_2 r_2 b_2 cell_t froz_t lt_t cell_r froz_r lt_r hX3
 have cell_t:=t_3.cell
 have froz_t:=t_3.frozen
 have lt_t:=t_3.lt
 have cell_r:=r_3.cell
 have froz_r:=r_3.frozen
 have lt_r:=r_3.lt
 go_wp2_with fail
 ((try simp only [Exit.inBlock,Exit.then]); apply bodyPost_ret0; focus ((try simp only [results,Tryz.results14]); (try go_simp); (try rfl)))
 refine ⟨rfl,?_⟩
 exact belBy
set_option maxHeartbeats 800000 in
theorem iInputZero (s a k:Int) (w:World) (h1:tapeOkB s a=true) (h2:inB k 0 1000000=true) :
  Calls Tryz.prog 98 #[.agg #[.int .i64 s,.int .i64 a],.int .i64 k] w fun e w'=>e=.returned (.int .i64 (zeroI s k))∧Below w.heap.size w w':=by
 have hF:=hid (fun w=>iTapeFork s a k w h1 h2)
 go_enter Tryz.func98,Tryz.ntmps98
 have b_0:=(Below.refl w.heap.size w)
 have s_0:=b_0.size
 go_wp2_with fail
 refine calls_forget1 (W:=w) (b0:=w.heap.size) (t0:=27) (c0:=#[.int .i64 s,.int .i64 a]) ?_ ?_ ?_
 (focus exact blkcBy)
 (focus (exact belBy))
 intro X1 t_n hX1
 have sX1:=hX1.size
 have t_lt:=t_n.lt
 refine (iTapeOk _ _ _).mono ?_
 rintro e w1 ⟨rfl,hb1⟩
 have s1:=hb1.size
 have hT1:=hX1.trans (hb1.mono sX1)
 have b_1:=b_0.trans (hT1.mono (by omega))
 have t_1:=Blk.past hb1 t_n
 clear b_0 t_n hX1 hT1 hb1
 have cell_t:=t_1.cell
 have froz_t:=t_1.frozen
 have lt_t:=t_1.lt
 go_wp2_with fail
 refine calls_forget0 (W:=w1) ?_ ?_
 (focus (exact belBy))
 intro X2 hX2
 have sX2:=hX2.size
 refine (iWithin _ _ _ _).mono ?_
 rintro e w' ⟨rfl,rfl⟩
 have b_2:=b_1.trans (hX2.mono (by omega))
 have t_2:=Blk.past hX2 t_1
 clear t_1 b_1 cell_t froz_t lt_t hX2
 have cell_t:=t_2.cell
 have froz_t:=t_2.frozen
 have lt_t:=t_2.lt
 go_wp2_with fail
 refine calls_forget0 (W:=X2) ?_ ?_
 (focus (exact belBy))
 intro X3 hX3
 have sX3:=hX3.size
 refine (hF.out _).mono ?_
 rintro e w3 ⟨rfl,hb3⟩
 have s3:=hb3.size
 have hT3:=hX3.trans (hb3.mono sX3)
 have b_3:=b_2.trans (hT3.mono (by omega))
 have t_3:=Blk.past hT3 t_2
 clear t_2 b_2 cell_t froz_t lt_t hX3 hT3 hb3
 have cell_t:=t_3.cell
 have froz_t:=t_3.frozen
 have lt_t:=t_3.lt
 go_wp2_with fail
 refine calls_forget0 (W:=w3) ?_ ?_
 (focus (exact belBy))
 intro X4 hX4
 have sX4:=hX4.size
 refine (iTapeBelow _ _ _ _).mono ?_
 rintro e w4 ⟨rfl,hb4⟩
 have s4:=hb4.size
 have hT4:=hX4.trans (hb4.mono sX4)
 have b_4:=b_3.trans (hT4.mono (by omega))
 have t_4:=Blk.past hT4 t_3
 clear t_3 b_3 cell_t froz_t lt_t hX4 hT4 hb4
 have cell_t:=t_4.cell
 have froz_t:=t_4.frozen
 have lt_t:=t_4.lt
 go_wp2_with fail
 go_ret
 refine ⟨rfl,?_⟩
 exact belBy
theorem sIsLabel (x:Int) (w:World):Calls Tryz.prog 180 #[.int .i64 x] w fun e w'=>e=.returned (.bool (labelB x))∧w=w':=by
 go_enter Tryz.func180,Tryz.ntmps180
 go_wp2_with (go_at_call 123; refine (sWithin _ _ _ _).mono ?_; rintro e w' ⟨rfl,rfl⟩)
 go_ret
 exact ⟨rfl,rfl⟩
set_option maxHeartbeats 800000 in
theorem sTapeFork (s a k:Int) (w:World) (h1:tapeOkB s a=true) (h2:inB k 0 1000000=true) :
  Calls Tryz.prog 181 #[.agg #[.int .i64 s,.int .i64 a],.int .i64 k] w fun e w'=>e=.returned (.agg #[.int .i64 (keyedI s 9 k),.int .i64 0])∧Below w.heap.size w w':=by
 go_enter Tryz.func181,Tryz.ntmps181
 have b_0:=(Below.refl w.heap.size w)
 have s_0:=b_0.size
 go_wp2_with fail
 refine calls_forget2 (W:=w) (b0:=w.heap.size) (t0:=27) (c0:=#[.int .i64 s,.int .i64 a]) (b1:=w.heap.size + 1) (t1:=27) (c1:=#[.int .i64 0,.int .i64 0]) ?_ ?_ ?_ ?_
 (focus exact blkcBy)
 (focus exact blkcBy)
 (focus (exact belBy))
 intro X1 t_n r_n hX1
 have sX1:=hX1.size
 have t_lt:=t_n.lt
 have r_lt:=r_n.lt
 refine (sTapeOk _ _ _).mono ?_
 rintro e w1 ⟨rfl,hb1⟩
 have s1:=hb1.size
 have hT1:=hX1.trans (hb1.mono sX1)
 have b_1:=b_0.trans (hT1.mono (by omega))
 have t_1:=Blk.past hb1 t_n
 have r_1:=Blk.past hb1 r_n
 clear b_0 t_n r_n hX1 hT1 hb1
 have cell_t:=t_1.cell
 have froz_t:=t_1.frozen
 have lt_t:=t_1.lt
 have cell_r:=r_1.cell
 have froz_r:=r_1.frozen
 have lt_r:=r_1.lt
 go_wp2_with fail
 refine calls_forget0 (W:=w1) ?_ ?_
 (focus (exact belBy))
 intro X2 hX2
 have sX2:=hX2.size
 refine (sWithin _ _ _ _).mono ?_
 rintro e w' ⟨rfl,rfl⟩
 have b_2:=b_1.trans (hX2.mono (by omega))
 have t_2:=Blk.past hX2 t_1
 have r_2:=Blk.past hX2 r_1
 clear t_1 r_1 b_1 cell_t froz_t lt_t cell_r froz_r lt_r hX2
 have cell_t:=t_2.cell
 have froz_t:=t_2.frozen
 have lt_t:=t_2.lt
 have cell_r:=r_2.cell
 have froz_r:=r_2.frozen
 have lt_r:=r_2.lt
 go_wp2_with fail
 refine calls_forget0 (W:=X2) ?_ ?_
 (focus (exact belBy))
 intro X3 hX3
 have sX3:=hX3.size
 refine (sKeyed _ _ _ _).mono ?_
 rintro e w' ⟨rfl,rfl⟩
 have b_3:=b_2.trans (hX3.mono (by omega))
 have t_3:=Blk.past hX3 t_2
 have r_3:=Blk.past hX3 r_2
 clear t_2 r_2 b_2 cell_t froz_t lt_t cell_r froz_r lt_r hX3
 have cell_t:=t_3.cell
 have froz_t:=t_3.frozen
 have lt_t:=t_3.lt
 have cell_r:=r_3.cell
 have froz_r:=r_3.frozen
 have lt_r:=r_3.lt
 go_wp2_with fail
 ((try simp only [Exit.inBlock,Exit.then]); apply bodyPost_ret0; focus ((try simp only [results,Tryz.results181]); (try go_simp); (try rfl)))
 refine ⟨rfl,?_⟩
 exact belBy
set_option maxHeartbeats 800000 in
theorem sInputZero (s a k:Int) (w:World) (h1:tapeOkB s a=true) (h2:inB k 0 1000000=true) :
  Calls Tryz.prog 137 #[.agg #[.int .i64 s,.int .i64 a],.int .i64 k] w fun e w'=>e=.returned (.int .i64 (zeroI s k))∧Below w.heap.size w w':=by
 have hF:=hid (fun w=>sTapeFork s a k w h1 h2)
 go_enter Tryz.func137,Tryz.ntmps137
 have b_0:=(Below.refl w.heap.size w)
 have s_0:=b_0.size
 go_wp2_with fail
 refine calls_forget1 (W:=w) (b0:=w.heap.size) (t0:=27) (c0:=#[.int .i64 s,.int .i64 a]) ?_ ?_ ?_
 (focus exact blkcBy)
 (focus (exact belBy))
 intro X1 t_n hX1
 have sX1:=hX1.size
 have t_lt:=t_n.lt
 refine (sTapeOk _ _ _).mono ?_
 rintro e w1 ⟨rfl,hb1⟩
 have s1:=hb1.size
 have hT1:=hX1.trans (hb1.mono sX1)
 have b_1:=b_0.trans (hT1.mono (by omega))
 have t_1:=Blk.past hb1 t_n
 clear b_0 t_n hX1 hT1 hb1
 have cell_t:=t_1.cell
 have froz_t:=t_1.frozen
 have lt_t:=t_1.lt
 go_wp2_with fail
 refine calls_forget0 (W:=w1) ?_ ?_
 (focus (exact belBy))
 intro X2 hX2
 have sX2:=hX2.size
 refine (sWithin _ _ _ _).mono ?_
 rintro e w' ⟨rfl,rfl⟩
 have b_2:=b_1.trans (hX2.mono (by omega))
 have t_2:=Blk.past hX2 t_1
 clear t_1 b_1 cell_t froz_t lt_t hX2
 have cell_t:=t_2.cell
 have froz_t:=t_2.frozen
 have lt_t:=t_2.lt
 go_wp2_with fail
 refine calls_forget0 (W:=X2) ?_ ?_
 (focus (exact belBy))
 intro X3 hX3
 have sX3:=hX3.size
 refine (hF.out _).mono ?_
 rintro e w3 ⟨rfl,hb3⟩
 have s3:=hb3.size
 have hT3:=hX3.trans (hb3.mono sX3)
 have b_3:=b_2.trans (hT3.mono (by omega))
 have t_3:=Blk.past hT3 t_2
 clear t_2 b_2 cell_t froz_t lt_t hX3 hT3 hb3
 have cell_t:=t_3.cell
 have froz_t:=t_3.frozen
 have lt_t:=t_3.lt
 go_wp2_with fail
 refine calls_forget0 (W:=w3) ?_ ?_
 (focus (exact belBy))
 intro X4 hX4
 have sX4:=hX4.size
 refine (sTapeBelow _ _ _ _).mono ?_
 rintro e w4 ⟨rfl,hb4⟩
 have s4:=hb4.size
 have hT4:=hX4.trans (hb4.mono sX4)
 have b_4:=b_3.trans (hT4.mono (by omega))
 have t_4:=Blk.past hT4 t_3
 clear t_3 b_3 cell_t froz_t lt_t hX4 hT4 hb4
 have cell_t:=t_4.cell
 have froz_t:=t_4.frozen
 have lt_t:=t_4.lt
 go_wp2_with fail
 go_ret
 refine ⟨rfl,?_⟩
 exact belBy
theorem s_l06 (s a:Int) (w:World) :
  Calls Tryz.prog 134 #[.agg #[.int .i64 s,.int .i64 a]] w fun e w'=>e=.returned (.bool (tapeOkB s a && decide (a≤900000)))∧Below w.heap.size w w':=by
 cases h1:tapeOkB s a; rotate_left
 cases h2:decide (a≤900000)
 all_goals
  go_enter Tryz.func134,Tryz.ntmps134
  go_wp2_with (go_at_call 131; refine (sTapeOk _ _ _).mono ?_; rintro e w1 ⟨rfl,hb1⟩; obtain ⟨z1,c1,f1⟩:=bfacts hb1)
  go_ret
  refine ⟨by simp,?_⟩
  exact belBy
theorem s_l38 (s a:Int) (w:World) :
  Calls Tryz.prog 67 #[.agg #[.int .i64 s,.int .i64 a]] w fun e w'=>e=.returned (.bool (tapeOkB s a && decide (a≤800000)))∧Below w.heap.size w w':=by
 cases h1:tapeOkB s a; rotate_left
 cases h2:decide (a≤800000)
 all_goals
  go_enter Tryz.func67,Tryz.ntmps67
  go_wp2_with (go_at_call 131; refine (sTapeOk _ _ _).mono ?_; rintro e w1 ⟨rfl,hb1⟩; obtain ⟨z1,c1,f1⟩:=bfacts hb1)
  go_ret
  refine ⟨by simp,?_⟩
  exact belBy
set_option maxHeartbeats 800000 in
theorem iDeltaOf (s a:Int) (w:World) (h1:tapeOkB s a=true) (h2:a≤900000) :
  Calls Tryz.prog 95 #[.agg #[.int .i64 s,.int .i64 a]] w fun e w'=>e=.returned (.tuple #[.int .i64 (deltaI s a),.agg #[.int .i64 s,.int .i64 (belowAt s a 65536)]])∧Below w.heap.size w w':=by
 have h3:decide (900000 < a)=false:=by simp; omega
 clear h2
 go_enter Tryz.func95,Tryz.ntmps95
 have b_0:=(Below.refl w.heap.size w)
 have s_0:=b_0.size
 go_wp2_with fail
 refine calls_forget2 (W:=w) (b0:=w.heap.size) (t0:=27) (c0:=#[.int .i64 s,.int .i64 a]) (b1:=w.heap.size + 1) (t1:=27) (c1:=#[.int .i64 0,.int .i64 0]) ?_ ?_ ?_ ?_
 (focus exact blkcBy)
 (focus exact blkcBy)
 (focus (exact belBy))
 intro X1 t_n r_n hX1
 have sX1:=hX1.size
 have t_lt:=t_n.lt
 have r_lt:=r_n.lt
 refine (iTapeOk _ _ _).mono ?_
 rintro e w1 ⟨rfl,hb1⟩
 have s1:=hb1.size
 have hT1:=hX1.trans (hb1.mono sX1)
 have b_1:=b_0.trans (hT1.mono (by omega))
 have t_1:=Blk.past hb1 t_n
 have r_1:=Blk.past hb1 r_n
 clear b_0 t_n r_n hX1 hT1 hb1
 have cell_t:=t_1.cell
 have froz_t:=t_1.frozen
 have lt_t:=t_1.lt
 have cell_r:=r_1.cell
 have froz_r:=r_1.frozen
 have lt_r:=r_1.lt
 go_wp2_with fail
 refine calls_forget0 (W:=w1) ?_ ?_
 (focus (exact belBy))
 intro X2 hX2
 have sX2:=hX2.size
 refine (iTapeBelow _ _ _ _).mono ?_
 rintro e w2 ⟨rfl,hb2⟩
 have s2:=hb2.size
 have hT2:=hX2.trans (hb2.mono sX2)
 have b_2:=b_1.trans (hT2.mono (by omega))
 have t_2:=Blk.past hT2 t_1
 have r_2:=Blk.past hT2 r_1
 clear t_1 r_1 b_1 cell_t froz_t lt_t cell_r froz_r lt_r hX2 hT2 hb2
 have cell_t:=t_2.cell
 have froz_t:=t_2.frozen
 have lt_t:=t_2.lt
 have cell_r:=r_2.cell
 have froz_r:=r_2.frozen
 have lt_r:=r_2.lt
 go_wp2_with fail
 refine wp_forget1 (w0:=w2) (B:=w2.heap.size) (b0:=w2.heap.size) (t0:=27) (c0:=#[.int .i64 s,.int .i64 (belowAt s a 65536)]) ?_ ?_ ?_
 (focus exact blkcBy)
 (focus (exact belBy))
 intro w3 nx_3 hX3
 have sX3:=hX3.size
 have nx_lt:=nx_3.lt
 have b_3:=b_2.trans (hX3.mono (by omega))
 have t_3:=Blk.past hX3 t_2
 have r_3:=Blk.past hX3 r_2
 clear t_2 r_2 b_2 cell_t froz_t lt_t cell_r froz_r lt_r hX3
 have cell_t:=t_3.cell
 have froz_t:=t_3.frozen
 have lt_t:=t_3.lt
 have cell_r:=r_3.cell
 have froz_r:=r_3.frozen
 have lt_r:=r_3.lt
 have cell_nx:=nx_3.cell
 have froz_nx:=nx_3.frozen
 have lt_nx:=nx_3.lt
 go_wp2_with fail
 go_region_held3 (fun w'=>w'.cell? ⟨w2.heap.size,0,none⟩=some (.int .i64 s)∧w'.cell? ⟨w2.heap.size,1,none⟩=some (.int .i64 (belowAt s a 65536))) ((refine ⟨(Blk.cell (t:=27) (cs:=#[.int .i64 s,.int .i64 (belowAt s a 65536)]) ?qnx 0),(Blk.cell ?qnx 1)⟩; (case qnx=>(exact blkBy)))) (fail)
 all_goals
  go_wp2_with fail
  ((try simp only [Exit.inBlock,Exit.then]); apply bodyPost_ret0; focus ((try simp only [results,Tryz.results95]); (try go_simp); (try rfl)))
  refine ⟨rfl,?_⟩
  exact belBy
set_option maxHeartbeats 800000 in
theorem sDeltaOf (s a:Int) (w:World) (h1:tapeOkB s a=true) (h2:a≤900000) :
  Calls Tryz.prog 135 #[.agg #[.int .i64 s,.int .i64 a]] w fun e w'=>e=.returned (.tuple #[.int .i64 (deltaI s a),.agg #[.int .i64 s,.int .i64 (belowAt s a 65536)]])∧Below w.heap.size w w':=by
 have h3:(tapeOkB s a && decide (a≤900000))=true:=by simp [h1,h2]
 clear h2 h1
 go_enter Tryz.func135,Tryz.ntmps135
 have b_0:=(Below.refl w.heap.size w)
 have s_0:=b_0.size
 go_wp2_with fail
 refine calls_forget2 (W:=w) (b0:=w.heap.size) (t0:=27) (c0:=#[.int .i64 s,.int .i64 a]) (b1:=w.heap.size + 1) (t1:=27) (c1:=#[.int .i64 0,.int .i64 0]) ?_ ?_ ?_ ?_
 (focus exact blkcBy)
 (focus exact blkcBy)
 (focus (exact belBy))
 intro X1 t_n r_n hX1
 have sX1:=hX1.size
 have t_lt:=t_n.lt
 have r_lt:=r_n.lt
 refine (s_l06 _ _ _).mono ?_
 rintro e w1 ⟨rfl,hb1⟩
 have s1:=hb1.size
 have hT1:=hX1.trans (hb1.mono sX1)
 have b_1:=b_0.trans (hT1.mono (by omega))
 have t_1:=Blk.past hb1 t_n
 have r_1:=Blk.past hb1 r_n
 clear b_0 t_n r_n hX1 hT1 hb1
 have cell_t:=t_1.cell
 have froz_t:=t_1.frozen
 have lt_t:=t_1.lt
 have cell_r:=r_1.cell
 have froz_r:=r_1.frozen
 have lt_r:=r_1.lt
 rw [h3]
 go_wp2_with fail
 refine calls_forget0 (W:=w1) ?_ ?_
 (focus (exact belBy))
 intro X2 hX2
 have sX2:=hX2.size
 refine (sTapeBelow _ _ _ _).mono ?_
 rintro e w2 ⟨rfl,hb2⟩
 have s2:=hb2.size
 have hT2:=hX2.trans (hb2.mono sX2)
 have b_2:=b_1.trans (hT2.mono (by omega))
 have t_2:=Blk.past hT2 t_1
 have r_2:=Blk.past hT2 r_1
 clear t_1 r_1 b_1 cell_t froz_t lt_t cell_r froz_r lt_r hX2 hT2 hb2
 have cell_t:=t_2.cell
 have froz_t:=t_2.frozen
 have lt_t:=t_2.lt
 have cell_r:=r_2.cell
 have froz_r:=r_2.frozen
 have lt_r:=r_2.lt
 go_wp2_with fail
 refine wp_forget1 (w0:=w2) (B:=w2.heap.size) (b0:=w2.heap.size) (t0:=27) (c0:=#[.int .i64 s,.int .i64 (belowAt s a 65536)]) ?_ ?_ ?_
 (focus exact blkcBy)
 (focus (exact belBy))
 intro w3 nx_3 hX3
 have sX3:=hX3.size
 have nx_lt:=nx_3.lt
 have b_3:=b_2.trans (hX3.mono (by omega))
 have t_3:=Blk.past hX3 t_2
 have r_3:=Blk.past hX3 r_2
 clear t_2 r_2 b_2 cell_t froz_t lt_t cell_r froz_r lt_r hX3
 have cell_t:=t_3.cell
 have froz_t:=t_3.frozen
 have lt_t:=t_3.lt
 have cell_r:=r_3.cell
 have froz_r:=r_3.frozen
 have lt_r:=r_3.lt
 have cell_nx:=nx_3.cell
 have froz_nx:=nx_3.frozen
 have lt_nx:=nx_3.lt
 go_wp2_with fail
 go_region_held3 (fun w'=>w'.cell? ⟨w2.heap.size,0,none⟩=some (.int .i64 s)∧w'.cell? ⟨w2.heap.size,1,none⟩=some (.int .i64 (belowAt s a 65536))) ((refine ⟨(Blk.cell (t:=27) (cs:=#[.int .i64 s,.int .i64 (belowAt s a 65536)]) ?qnx 0),(Blk.cell ?qnx 1)⟩; (case qnx=>(exact blkBy)))) (fail)
 all_goals
  go_wp2_with fail
  ((try simp only [Exit.inBlock,Exit.then]); apply bodyPost_ret0; focus ((try simp only [results,Tryz.results135]); (try go_simp); (try rfl)))
  refine ⟨rfl,?_⟩
  exact belBy
theorem iLabels (A:Option Addr) (c:Nat) (xs:List Int) (w:World) (hx:∀ (j:Nat) (x:Int),xs[j]? = some x→labelB x=true) (hc:Cells w w.heap.size A (ints xs)) (hn:xs.length≤1000000000) :
  Calls Tryz.prog 110 #[.slice A xs.length c] w fun e w'=>e=.returned (.bool true)∧w=w':=by
 go_enter Tryz.func110,Tryz.ntmps110
 go_wp2
 go_loop [4,7] (fun _ i=>∃ j:Nat,j≤xs.length∧i=.int .i64 j) (fun _ i=>xs.length - (intOf i).toNat)
 case atStart=>exact ⟨0,Nat.zero_le _,rfl⟩
 case round =>
  obtain ⟨j,hj,rfl⟩:=hrel
  by_cases hlt:j < xs.length
  ·obtain ⟨x,hx1⟩:∃ x,xs[j]? = some x:=⟨_,List.getElem?_eq_getElem hlt⟩
   have hb:=hx j x hx1
   obtain ⟨b,off,rfl,hB,hcl⟩:=hc (by rw [ints_length]; omega)
   have hcell:w.cell? ⟨b,off + j,none⟩=some (.int .i64 x):=hcl j _ (ints_get hx1)
   clear hcl hc hx hx1
   go_wp2_with (go_at_call 172; refine (iIsLabel _ _).mono ?_; rintro e w' ⟨rfl,rfl⟩)
   go_round
   case rel=>exact ⟨j + 1,by omega,by go_num⟩
   case measure=>simp [intOf]; omega
  ·obtain rfl:j=xs.length:=by omega
   go_wp2
   go_ret
   exact ⟨rfl,rfl⟩
theorem cells_lit (w:World) (xs:List Int) (t:TypeId):Cells (w.alloc (.cells (ints xs).toArray t)) (w.alloc (.cells (ints xs).toArray t)).heap.size (some ⟨w.heap.size,0,none⟩) (ints xs):=fun _ =>
 ⟨w.heap.size,0,rfl,by simp,fun i v hv=>by
  have h:=(Blk.new (w:=w) (b:=w.heap.size) (t:=t) (cs:=(ints xs).toArray) rfl).cell i
  rw [Nat.zero_add,h]
  simpa using hv⟩
theorem iLab2 (a b:Int) (c:Nat) (t:TypeId) (w:World) (ha:labelB a=true) (hb:labelB b=true) :
  Calls Tryz.prog 110 #[.slice (some ⟨w.heap.size,0,none⟩) 2 c] (w.alloc (.cells #[.int .i64 a,.int .i64 b] t)) fun e w'=>e=.returned (.bool true)∧(w.alloc (.cells #[.int .i64 a,.int .i64 b] t))=w' :=
 iLabels (some ⟨w.heap.size,0,none⟩) c [a,b] (w.alloc (.cells #[.int .i64 a,.int .i64 b] t)) (fun j x h=>by
  have hm:=List.mem_of_getElem? h
  simp only [List.mem_cons,List.not_mem_nil,or_false] at hm
  rcases hm with rfl | rfl <;> assumption) (cells_lit w [a,b] t) (by simp)
theorem iLab4 (a b d f:Int) (c:Nat) (t:TypeId) (w:World) (ha:labelB a=true) (hb:labelB b=true) (hd:labelB d=true) (hf:labelB f=true) :
  Calls Tryz.prog 110 #[.slice (some ⟨w.heap.size,0,none⟩) 4 c] (w.alloc (.cells #[.int .i64 a,.int .i64 b,.int .i64 d,.int .i64 f] t)) fun e w'=>e=.returned (.bool true)∧(w.alloc (.cells #[.int .i64 a,.int .i64 b,.int .i64 d,.int .i64 f] t))=w' :=
 iLabels (some ⟨w.heap.size,0,none⟩) c [a,b,d,f] (w.alloc (.cells #[.int .i64 a,.int .i64 b,.int .i64 d,.int .i64 f] t)) (fun j x h=>by
  have hm:=List.mem_of_getElem? h
  simp only [List.mem_cons,List.not_mem_nil,or_false] at hm
  rcases hm with rfl | rfl | rfl | rfl <;> assumption) (cells_lit w [a,b,d,f] t) (by simp)
theorem mul_wraps {d:Int} (hd:labelB d=true):wrap64 (1 * d)=d∧wrap64 (0 * d)=0:=by
 have h1:=labelB_iff.1 hd
 exact ⟨by rw [Int.one_mul]; exact IntWalk.wrap64_in _ (by omega),by rw [Int.zero_mul]; exact IntWalk.wrap64_in _ (by omega)⟩
set_option maxHeartbeats 800000 in
theorem iLabelFor (z d v:Int) (w:World) (hz:labelB z=true) (hd:labelB d=true) (hv:inB v 0 1=true) :
  Calls Tryz.prog 100 #[.int .i64 z,.int .i64 d,.int .i64 v] w fun e w'=>e=.returned (.int .i64 (lblI z d v))∧Below w.heap.size w w':=by
 have hw:=hid (mul_wraps hd)
 rcases bit_cases hv with rfl | rfl
 ·have e:bits .xor .i64 z 0=lblI z d 0:=xor_zero hz
  have E:=hid e
  clear e
  go_enter Tryz.func100,Tryz.ntmps100
  go_wp2_with (first | (go_at_call 110; refine (iLab2 _ _ _ _ _ hz hd).mono ?_; rintro e w' ⟨rfl,rfl⟩) | (go_at_call 56; refine (iWithin _ _ _ _).mono ?_; rintro e w' ⟨rfl,rfl⟩))
  go_ret
  refine ⟨ret_int (by have h:=hw.out; have e:=E.out; simp_all),?_⟩
  exact belBy
 ·have e:bits .xor .i64 z d=lblI z d 1:=rfl
  have E:=hid e
  clear e
  go_enter Tryz.func100,Tryz.ntmps100
  go_wp2_with (first | (go_at_call 110; refine (iLab2 _ _ _ _ _ hz hd).mono ?_; rintro e w' ⟨rfl,rfl⟩) | (go_at_call 56; refine (iWithin _ _ _ _).mono ?_; rintro e w' ⟨rfl,rfl⟩))
  go_ret
  refine ⟨ret_int (by have h:=hw.out; have e:=E.out; simp_all),?_⟩
  exact belBy
set_option maxHeartbeats 800000 in
theorem sLabelFor (z d v:Int) (w:World) (hz:labelB z=true) (hd:labelB d=true) (hv:inB v 0 1=true) :
  Calls Tryz.prog 136 #[.int .i64 z,.int .i64 d,.int .i64 v] w fun e w'=>e=.returned (.int .i64 (lblI z d v))∧Below w.heap.size w w':=by
 rcases bit_cases hv with rfl | rfl
 all_goals
  go_enter Tryz.func136,Tryz.ntmps136
  go_wp2_with (first | (go_at_call 180; refine (sIsLabel _ _).mono ?_; rintro e w' ⟨rfl,rfl⟩) | (go_at_call 123; refine (sWithin _ _ _ _).mono ?_; rintro e w' ⟨rfl,rfl⟩))
  go_ret
  refine ⟨rfl,?_⟩
  exact belBy
theorem iBits (A:Option Addr) (c:Nat) (xs:List Int) (w:World) (hc:Cells w w.heap.size A (ints xs)) (hn:xs.length≤1000000000) :
  Calls Tryz.prog 93 #[.slice A xs.length c] w fun e w'=>e=.returned (.bool (bitsB xs))∧w=w':=by
 go_enter Tryz.func93,Tryz.ntmps93
 go_wp2
 go_loop [4,7] (fun _ i=>∃ j:Nat,j≤xs.length∧i=.int .i64 j∧bitsB (xs.take j)=true) (fun _ i=>xs.length - (intOf i).toNat)
 case atStart=>exact ⟨0,Nat.zero_le _,rfl,rfl⟩
 case round =>
  obtain ⟨j,hj,rfl,hw⟩:=hrel
  by_cases hlt:j < xs.length
  ·obtain ⟨x,hx⟩:∃ x,xs[j]? = some x:=⟨_,List.getElem?_eq_getElem hlt⟩
   obtain ⟨b,off,rfl,hB,hcl⟩:=hc (by rw [ints_length]; omega)
   have hcell:w.cell? ⟨b,off + j,none⟩=some (.int .i64 x):=hcl j _ (ints_get hx)
   have HW:=hid hw
   have HX:=hid hx
   clear hcl hc hw hx
   cases hb:inB x 0 1
   ·go_wp2_with (go_at_call 56; refine (iWithin _ _ _ _).mono ?_; rintro e w' ⟨rfl,rfl⟩)
    go_ret
    exact ⟨ret_bool (by rw [bitsB_no HX.out hb]),rfl⟩
   ·go_wp2_with (go_at_call 56; refine (iWithin _ _ _ _).mono ?_; rintro e w' ⟨rfl,rfl⟩)
    go_round
    case rel=>exact ⟨j + 1,by omega,by go_num,bitsB_snoc HX.out HW.out hb⟩
    case measure=>simp [intOf]; omega
  ·obtain rfl:j=xs.length:=by omega
   rw [List.take_length] at hw
   have HW:=hid hw
   clear hw
   go_wp2
   go_ret
   exact ⟨ret_bool HW.out.symm,rfl⟩
theorem sBits (A:Option Addr) (c:Nat) (xs:List Int) (n:Int) (w:World) (hc:Cells w w.heap.size A (ints xs)) (hn:xs.length≤1000000000) :
  Calls Tryz.prog 63 #[.slice A xs.length c,.int .i64 n] w fun e w'=>e=.returned (.bool (bitsB xs && ((xs.length:Int) == n)))∧w=w':=by
 go_enter Tryz.func63,Tryz.ntmps63
 go_wp2
 go_loop [5] (fun i=>∃ j:Nat,j≤xs.length∧i=.int .i64 j∧bitsB (xs.take j)=true) (fun i=>xs.length - (intOf i).toNat)
 case atStart=>exact ⟨0,Nat.zero_le _,rfl,rfl⟩
 case round =>
  obtain ⟨j,hj,rfl,hw⟩:=hrel
  by_cases hlt:j < xs.length
  ·obtain ⟨x,hx⟩:∃ x,xs[j]? = some x:=⟨_,List.getElem?_eq_getElem hlt⟩
   obtain ⟨b,off,rfl,hB,hcl⟩:=hc (by rw [ints_length]; omega)
   have hcell:w.cell? ⟨b,off + j,none⟩=some (.int .i64 x):=hcl j _ (ints_get hx)
   have HW:=hid hw
   have HX:=hid hx
   clear hcl hc hw hx
   cases hb:inB x 0 1
   ·go_wp2_with (go_at_call 123; refine (sWithin _ _ _ _).mono ?_; rintro e w' ⟨rfl,rfl⟩)
    go_ret
    exact ⟨ret_bool (by rw [bitsB_no HX.out hb]; rfl),rfl⟩
   ·go_wp2_with (go_at_call 123; refine (sWithin _ _ _ _).mono ?_; rintro e w' ⟨rfl,rfl⟩)
    go_round
    case rel=>exact ⟨j + 1,by omega,by go_num,bitsB_snoc HX.out HW.out hb⟩
    case measure=>simp [intOf]; omega
  ·obtain rfl:j=xs.length:=by omega
   rw [List.take_length] at hw
   have HW:=hid hw
   clear hw
   go_wp2
   go_ret
   exact ⟨ret_bool (by rw [HW.out]; rfl),rfl⟩
end Go.Proofs.YtihbaieiempjeaaGreat
