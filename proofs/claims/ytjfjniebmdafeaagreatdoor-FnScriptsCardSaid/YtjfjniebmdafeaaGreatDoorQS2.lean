/- What the program's functions compute, and plain facts of it (part 2). No condition beyond those that each theorem states. -/
import Derived.Test.YtjfjniebmdafeaaGreatDoorQS1
set_option linter.unusedVariables false
set_option linter.unusedSimpArgs false
section
namespace Go.Proofs.YtjfjniebmdafeaaGreatDoor
open Go.RowKit Go.Lib Go.Ev Go.Shelf
theorem qoq (w:World)(q:Nat):Fr (fun _ _=>False) w (w.drewN q):=⟨rfl,rfl,rfl,Nat.le_refl _,fun _ _=>.inr (.inl rfl)⟩

theorem q3a: ∀ w,(zeroValue 3).run Tryz.prog w=.ok (.int .i64 0) w:=fun w=>by
  obtain ⟨i0,hi,h0,h1,h2⟩:=info_parts qo5
  simp [zeroValue,typeInfo,hi,h0]
set_option maxHeartbeats 1000000 in
set_option maxRecDepth 100000 in
theorem qxc (w:World)(g n c i j m vc:Nat)(a:Addr)(xs vs:List Value)(e' :TypeId)(hij:i<j)(hj:j≤n)(hm:1≤m)(hne:i+m≠j)(hn:n≤549755813888)(hmb:m≤549755813888)
    (own:w.ownsRow 0 e' 1 (.slice (some ⟨g,0,none⟩) n c) n xs) (hva:a.block≠g) (hvl:vs.length=m*1) (hv: ∀ q v,vs[q]? =some v→w.cell? (a.add q)=some v)
    (h1c: ∀ v∈xs,v.oneCell' =true) (h1v: ∀ v∈vs,v.oneCell' =true):
    Calls Tryz.prog 265 #[.slice (some ⟨g,0,none⟩) n c,.int .i64 i,.int .i64 j,.slice (some a) m vc] w (RepPost 1 w g (i+m+(n - j)) (xs.take (i*1)++vs++xs.drop (j*1))):=by
  have own0:=own
  obtain ⟨hxl,hx | ⟨g',cap,cur,e1,_,hg,hnc,hcm,hcs,htk⟩⟩:=own
  · simp at hx
  simp only [Value.slice.injEq,Option.some.injEq,Addr.mk.injEq,and_true,true_and] at e1
  obtain ⟨rfl,rfl⟩:=e1
  have hcm' :=hcm
  unfold maxLen at hcm'
  obtain ⟨i0,hi,hz0,hzs,hzb⟩:=info_parts qo5
  have hlt:g<w.heap.size:=(Array.getElem?_eq_some_iff.1 hg).1
  have hcur:cur.toList.length=c*1:=by rw [Array.length_toList]; exact hcs
  have htA:xs.take (i*1)=cur.toList.take (i*1):=by rw [← htk,take_take_le _ (by omega)]
  have h1z: ∀ n,∀ v∈(Builtin.zeroCells ((.int .i64 0):Value).cells n).toList,v.oneCell' =true:=fun n=>zeroCells_oneCell (by intro v hv; simp [Value.cells] at hv; rcases hv with rfl | rfl | rfl<;>rfl) n
  have lz: ∀ n,(Builtin.zeroCells ((.int .i64 0):Value).cells n).toList.length=n*1:=fun n=>by simp [Builtin.zeroCells,Value.cells]
  by_cases hjn:j=n
  · have hys:xs.take (i*1)++vs++xs.drop (j*1)=xs.take (i*1)++vs:=by rw [List.drop_of_length_le (by omega),List.append_nil]
    have owni:w.ownsRow 0 e' i0.size (.slice (some ⟨g,0,none⟩) i c) i (xs.take (i*1)):=by
      rw [hzs]; exact own_make hg (by rw [List.length_take]; omega) (by omega) hcm hcs (by rw [htA])
    obtain ⟨u',w1,e2,hr,hown,hfr,_,hblk⟩:=append_any (P:=Tryz.prog) (w:=w) (t:=27) (t2:=27) (ty:=27) (e:=3) (e' :=e') (d2:=.slice 3) (i:=i0) (z:=(.int .i64 0)) q2c q2c (fun k h=>by cases h) hi hz0 (by rw [hzs]; rfl) (by omega) (by omega)
      (u:=.slice (some ⟨g,0,none⟩) i c) (x:=.slice (some a) m vc) (n:=i) (m:=m) (xs:=xs.take (i*1)) (news:=vs) rfl
      (fun w1 h=>by
        rw [hzs]
        rcases h with rfl | rfl
        · exact run_firstCells_some w1 1 m a m vc vs hvl hv
        · exact run_firstCells_some w.drew 1 m a m vc vs hvl hv) (by rw [hvl,hzs]) h1v owni (by unfold bigLen; omega)
    have hfr' :Fr (fun b _=>b=g) w w1:=hfr.mono fun x y _ h=>by simp [Value.ownBlock] at h; exact h.symm
    rw [hzs] at hown
    have hown0:=hown
    obtain ⟨_,⟨_,h0⟩ | ⟨g1,cap1,cur1,rfl,_⟩⟩:=hown
    · omega
    have hblk' : ∀ b,(Value.slice (some ⟨g1,0,none⟩) (i+m) cap1).ownBlock=some b→b=g∨w.heap.size≤b:=fun b hb=>(hblk b hb).imp (fun h=>by simp [Value.ownBlock] at h; exact h.symm) id
    by_cases hcut:i+m<n
    · obtain ⟨cu,hcu,hcz⟩:=fr_at hfr' hg
      have hfit:(i+m)*1+(Builtin.zeroCells ((.int .i64 0):Value).cells (n - (i+m))).toList.length≤cu.size:=by rw [lz]; omega
      refine (qw8 g n c i j m vc cap1 a ⟨g1,0,none⟩ w w1 _ hij hjn hnc (by omega) hcm' hcut (by omega) hr (fun ty kc=>run_clear_rows w1 27 3 ty (.int .i64 0) q2c q3a h1z g (i+m) (n - (i+m)) kc (by omega) cu e' hcu (by omega))).mono ?_
      rintro en w' ⟨rfl,rfl⟩
      refine ⟨_,rfl,⟨e2,?_⟩,hfr'.trans (fr_row hcu (spl_size (by omega))),hblk'⟩
      rw [hys,show i+m+(n - j)=i+m by omega]
      exact own_clear hown0 hcu (by omega) (by omega)
    · refine (qxa g n c i j m vc cap1 a ⟨g1,0,none⟩ w w1 hij hjn hnc (by omega) hcm' (by omega) (by omega) hr).mono ?_
      rintro en w' ⟨rfl,rfl⟩
      refine ⟨_,rfl,⟨e2,?_⟩,hfr',hblk'⟩
      rw [hys,show i+m+(n - j)=i+m by omega]
      exact hown0
  · have hj' :j<n:=by omega
    obtain ⟨cs,hcsd⟩: ∃ cs,cs=xs.drop (j*1):=⟨_,rfl⟩
    have hcl:cs.length=(n - j)*1:=by rw [hcsd,List.length_drop]; omega
    have h1s: ∀ v∈cs,v.oneCell' =true:=fun v hv=>h1c v (by rw [hcsd] at hv; exact List.mem_of_mem_drop hv)
    have htd:(cur.toList.drop (j*1)).take ((n - j)*1)=cs:=by rw [hcsd,← htk,List.drop_take]; congr 1; omega
    have hys:(xs.take (i*1)++vs++cs).length=(i+m+(n - j))*1:=by
      rw [List.length_append,List.length_append,List.length_take]; omega
    rw [← hcsd]
    have hmin:Nat.min m (i+m+(n - j) - i)=m:=by simp only [Nat.min_def]; split<;>omega
    have hmin2:Nat.min (n - j) (n - j)=n - j:=Nat.min_self _
    by_cases hroom:i+m+(n - j)≤c
    · by_cases hgr:j<i+m
      · have hfa:(i+m)*1+cs.length≤cur.size:=by omega
        have hfb:i*1+vs.length≤(spl cur ((i+m)*1) cs).size:=by rw [spl_size hfa]; omega
        obtain ⟨tB,kB,hsb,hkB⟩:=shape_of (by omega) hv
        refine (qxi g n c i j m vc a w (fun q=>(w.drewN q).setRow g (spl cur ((i+m)*1) cs)) (fun q=>((w.drewN q).setRow g (spl cur ((i+m)*1) cs)).setRow g (spl (spl cur ((i+m)*1) cs) (i*1) vs)) hij hj' hnc (by omega) hcm' hgr (by omega) hroom ?_ ?_ ?_).mono ?_
        · intro q lb cb
          rw [run_callFunc_extern Tryz.func276 (by kernel_rfl) (by kernel_rfl) (by kernel_rfl) (e:=Extern.SlicesOverlaps.overlaps #[27,27] #[4]) (by kernel_rfl),
            Lib.run_overlaps_apart (w.drewN q) 27 4 3 q2c 1 q1e ⟨g,(i+m),none⟩ a lb cb m vc (fun h=>hva h.symm) e' tB cur.size kB (by simp [World.shape?,hg]) (by simpa [World.shape?] using hsb) hkB (by simp [World.frozen?,hg]) (by simp [World.frozen?,hg])]
          rfl
        · intro q ty dc sc
          have:=run_copy_rows (P:=Tryz.prog) (w.drewN q) 27 27 ty 3 1 g ((i+m)*1) (n - j) dc ⟨g,j*1,none⟩ (n - j) sc cur e' cs q2c q1o hg (by rw [hcl,hmin2]) (fun q' v hq=>by rw [Addr.add_lit]; simpa [World.cell?,hg] using get_drop htd q' v hq) hfa h1s
          rw [hmin2] at this
          simpa using this
        · intro q ty dc
          have:=run_copy_rows (P:=Tryz.prog) ((w.drewN q).setRow g (spl cur ((i+m)*1) cs)) 27 27 ty 3 1 g (i*1) (i+m+(n - j) - i) dc a m vc (spl cur ((i+m)*1) cs) e' vs q2c q1o (setRow_heap _ g cur _ e' _ hg) (by rw [hvl,hmin]) (fun q' v hq=>by rw [cell_setRow hva]; exact hv q' v hq) hfb h1v
          rw [hmin] at this
          simpa using this
        · rintro en w' ⟨q,rfl,rfl⟩
          refine ⟨_,rfl,⟨e',?_⟩,?_,fun b hb=>.inl (by simp [Value.ownBlock] at hb; exact hb.symm)⟩
          · refine own_make (setRow_heap _ g _ _ e' _ (setRow_heap _ g cur _ e' _ hg)) hys hroom hcm (by rw [spl_size hfb,spl_size hfa]; exact hcs) ?_
            have d1:(spl cur ((i+m)*1) cs).toList.drop ((i+m)*1)=cs++cur.toList.drop ((i+m)*1+cs.length):=by
              show List.drop _ (cur.toList.take ((i+m)*1)++cs++cur.toList.drop ((i+m)*1+cs.length))=_
              rw [List.append_assoc,List.drop_left' (by rw [List.length_take]; omega)]
            show List.take _ ((spl cur ((i+m)*1) cs).toList.take (i*1)++vs++(spl cur ((i+m)*1) cs).toList.drop (i*1+vs.length))=_
            rw [show i*1+vs.length=(i+m)*1 by omega,d1,spl_take_lo (by omega) (by omega),htA,← List.append_assoc]
            exact List.take_left' (by rw [← htA]; exact hys)
          · rw [setRow_setRow]
            exact (((qoq w q).mono fun _ _ _ h=>h.elim).trans (fr_row (w:=w.drewN q) hg (by rw [spl_size hfb,spl_size hfa])))
      · have hfa:i*1+vs.length≤cur.size:=by omega
        have hfb:(i+m)*1+cs.length≤(spl cur (i*1) vs).size:=by rw [spl_size hfa]; omega
        have hfc:(i+m+(n - j))*1+(Builtin.zeroCells ((.int .i64 0):Value).cells (n - (i+m+(n - j)))).toList.length≤(spl (spl cur (i*1) vs) ((i+m)*1) cs).size:=by rw [spl_size hfb,spl_size hfa,lz]; omega
        have htd1:((spl cur (i*1) vs).toList.drop (j*1)).take ((n - j)*1)=cs:=by rw [spl_drop_hi (by omega) hfa]; exact htd
        refine (qxe g n c i j m vc a w (fun q=>(w.drewN q).setRow g (spl cur (i*1) vs)) (fun q=>((w.drewN q).setRow g (spl cur (i*1) vs)).drew.setRow g (spl (spl cur (i*1) vs) ((i+m)*1) cs)) (fun q=>(((w.drewN q).setRow g (spl cur (i*1) vs)).drew.setRow g (spl (spl cur (i*1) vs) ((i+m)*1) cs)).setRow g (spl (spl (spl cur (i*1) vs) ((i+m)*1) cs) ((i+m+(n - j))*1) (Builtin.zeroCells ((.int .i64 0):Value).cells (n - (i+m+(n - j)))).toList)) hij hj' hnc (by omega) hcm' (by omega) (by omega) ?_ ?_ ?_).mono ?_
        · intro q ty dc
          have:=run_copy_rows (P:=Tryz.prog) (w.drewN q) 27 27 ty 3 1 g (i*1) (i+m+(n - j) - i) dc a m vc cur e' vs q2c q1o hg (by rw [hvl,hmin]) hv hfa h1v
          rw [hmin] at this
          simpa using this
        · intro q ty dc sc
          have hh:((w.drewN q).setRow g (spl cur (i*1) vs)).drew.heap[g]? =some (.cells (spl cur (i*1) vs) e' (0,0)):=setRow_heap _ g cur _ e' _ hg
          have:=run_copy_rows (P:=Tryz.prog) ((w.drewN q).setRow g (spl cur (i*1) vs)).drew 27 27 ty 3 1 g ((i+m)*1) (n - j) dc ⟨g,j*1,none⟩ (n - j) sc _ e' cs q2c q1o hh (by rw [hcl,hmin2]) (fun q' v hq=>cell_at hh (get_drop htd1 q' v hq)) hfb h1s
          rw [hmin2] at this
          simpa using this
        · intro q ty kc
          have:=run_clear_rows (P:=Tryz.prog) _ 27 3 ty (.int .i64 0) q2c q3a h1z g ((i+m+(n - j))*1) (n - (i+m+(n - j))) kc (by omega) _ e' (setRow_heap ((w.drewN q).setRow g (spl cur (i*1) vs)).drew g _ (spl (spl cur (i*1) vs) ((i+m)*1) cs) e' _ (setRow_heap (w.drewN q) g cur _ e' _ hg)) hfc
          simpa using this
        · rintro en w' ⟨q,rfl,rfl⟩
          refine ⟨_,rfl,⟨e',?_⟩,?_,fun b hb=>.inl (by simp [Value.ownBlock] at hb; exact hb.symm)⟩
          · refine own_make (setRow_heap _ g _ _ e' _ (setRow_heap _ g _ _ e' _ (setRow_heap (w.drewN q) g cur _ e' _ hg))) hys hroom hcm (by rw [spl_size hfc,spl_size hfb,spl_size hfa]; exact hcs) ?_
            rw [spl_take_lo (by omega) (by rw [spl_size hfb,spl_size hfa]; omega)]
            have e1:=spl_take hfb
            rw [show (i+m)*1+cs.length=(i+m+(n - j))*1 by omega] at e1
            rw [e1]
            have e2:=spl_take hfa
            rw [show i*1+vs.length=(i+m)*1 by omega] at e2
            rw [e2,htA]
          · have f1:=fr_row (w:=w.drewN q) hg (spl_size hfa)
            have g1:=setRow_heap (w.drewN q) g cur (spl cur (i*1) vs) e' _ hg
            have f2:=fr_row (w:=((w.drewN q).setRow g (spl cur (i*1) vs)).drew) g1 (spl_size hfb)
            have g2:=setRow_heap ((w.drewN q).setRow g (spl cur (i*1) vs)).drew g _ (spl (spl cur (i*1) vs) ((i+m)*1) cs) e' _ g1
            have f3:=fr_row g2 (spl_size hfc)
            exact ((qoq w q).mono fun _ _ _ h=>h.elim).trans (f1.trans (((fr_drew _).mono fun _ _ _ h=>h.elim).trans (f2.trans f3)))
    · obtain ⟨ROW,hROW⟩: ∃ ROW:Nat→Array Value,ROW=fun q=>(xs.take (i*1)).toArray++Builtin.zeroCells ((.int .i64 0):Value).cells (m+(n - j))++Builtin.zeroCells ((.int .i64 0):Value).cells (grownCap (w.drewN q) (i+(m+(n - j))) c 3 - (i+(m+(n - j)))):=⟨_,rfl⟩
      obtain ⟨G,hGd⟩: ∃ G:Nat→Nat,G=fun q=>grownCap (w.drewN q) (i+(m+(n - j))) c 3:=⟨_,rfl⟩
      have hG: ∀ q,i+m+(n - j)≤G q:=fun q=>by have:=grownCap_ge (w.drewN q) (i+(m+(n - j))) c 3; rw [hGd]; show i+m+(n - j)≤grownCap (w.drewN q) (i+(m+(n - j))) c 3; omega
      have hGm: ∀ q,G q≤maxLen:=fun q=>by rw [hGd]; exact grownCap_le_maxLen _ _ _ _ (by unfold maxLen; omega)
      have hrs: ∀ q,(ROW q).size=G q*1:=fun q=>by
        have:=hG q
        rw [hGd] at this ⊢
        rw [hROW]
        simp only [Array.size_append,List.size_toArray,List.length_take]
        rw [← Array.length_toList (xs:=Builtin.zeroCells _ _),lz,← Array.length_toList (xs:=Builtin.zeroCells _ _),lz]
        simp only at this
        omega
      have hrt: ∀ q,(ROW q).toList.take (i*1)=xs.take (i*1):=fun q=>by
        rw [hROW]
        simp only [Array.toList_append,List.append_assoc]
        exact List.take_left' (by rw [List.length_take]; omega)
      have hap: ∀ q,(Builtin.append_ #[27,3] 27 #[.slice (some ⟨g,0,none⟩) i c,.int .i64 ((i:Int)+(m:Int)+((n - j:Nat):Int) - (i:Int))]).run Tryz.prog (w.drewN q)=.ok (.slice (some ⟨w.heap.size,0,none⟩) (i+m+(n - j)) (G q)) ((w.drewN q).drew.alloc (.cells (ROW q) 3)):=fun q=>by
        have hold:(Builtin.firstCells i0.size i (.slice (some ⟨g,0,none⟩) i c)).run Tryz.prog (w.drewN q).drew=.ok (xs.take (i*1)).toArray (w.drewN q).drew:=by
          rw [hzs]
          exact run_firstCells_some _ 1 i ⟨g,0,none⟩ i c _ (by rw [List.length_take]; omega) (fun q' v hq=>by
            rw [Addr.add_lit]
            have:=get_drop (cur:=cur) (o:=0) (L:=i*1) (cs:=xs.take (i*1)) (by rw [List.drop_zero,htA]) q' v hq
            simpa [World.cell?,hg] using this)
        have h:=Lib.run_append_grow_zeros (P:=Tryz.prog) (w.drewN q) 27 3 27 3 i0 (.int .i64 0) .i64 .i64 q2c (by kernel_rfl) hi hz0 (some ⟨g,0,none⟩) i c (xs.take (i*1)) hold (m+(n - j)) (by omega) (by omega) (by omega) (by omega) (by rw [hzb]; omega) (by rw [hzb]; exact growslice_fits (by omega) (by omega))
        rw [show (i:Int)+(m:Int)+((n - j:Nat):Int) - (i:Int)=((m+(n - j):Nat):Int) by omega,show i+m+(n - j)=i+(m+(n - j)) by omega,hGd,hROW]
        exact h
      have hfa: ∀ q,i*1+vs.length≤(ROW q).size:=fun q=>by rw [hrs q]; have:=hG q; omega
      have hfb: ∀ q,(i+m)*1+cs.length≤(spl (ROW q) (i*1) vs).size:=fun q=>by rw [spl_size (hfa q),hrs q]; have:=hG q; omega
      have hnew: ∀ q,((w.drewN q).drew.alloc (.cells (ROW q) 3)).heap[w.heap.size]? =some (.cells (ROW q) 3 (0,0)):=fun q=>heap_alloc_new (w.drewN q).drew _
      have hold: ∀ q b,b<w.heap.size→((w.drewN q).drew.alloc (.cells (ROW q) 3)).heap[b]? =w.heap[b]? :=fun q b hb=>by
        show (w.heap.push _)[b]? =_
        rw [Array.getElem?_push,if_neg (by omega)]
      have hab:a.block<w.heap.size:=block_lt_of_cell (hv 0 _ (List.getElem?_eq_getElem (show 0<vs.length by omega)))
      refine (qxg g n c i j m vc w.heap.size a w G (fun q=>(w.drewN q).drew.alloc (.cells (ROW q) 3)) (fun q=>((w.drewN q).drew.alloc (.cells (ROW q) 3)).setRow w.heap.size (spl (ROW q) (i*1) vs)) (fun q=>(((w.drewN q).drew.alloc (.cells (ROW q) 3)).setRow w.heap.size (spl (ROW q) (i*1) vs)).drew.setRow w.heap.size (spl (spl (ROW q) (i*1) vs) ((i+m)*1) cs)) hij hj' hnc (by omega) hcm' (by omega) (by omega) hG hap ?_ ?_).mono ?_
      · intro q ty dc
        have:=run_copy_rows (P:=Tryz.prog) ((w.drewN q).drew.alloc (.cells (ROW q) 3)) 27 27 ty 3 1 w.heap.size (i*1) (i+m+(n - j) - i) dc a m vc (ROW q) 3 vs q2c q1o (hnew q) (by rw [hvl,hmin]) (fun q' v hq=>by
          rw [← hv q' v hq]; simp only [World.cell?,addr_block]; rw [hold q a.block hab]) (hfa q) h1v
        rw [hmin] at this
        simpa using this
      · intro q ty dc sc
        have hh:(((w.drewN q).drew.alloc (.cells (ROW q) 3)).setRow w.heap.size (spl (ROW q) (i*1) vs)).drew.heap[w.heap.size]? =some (.cells (spl (ROW q) (i*1) vs) 3 (0,0)):=setRow_heap _ _ _ _ 3 _ (hnew q)
        have hh2:(((w.drewN q).drew.alloc (.cells (ROW q) 3)).setRow w.heap.size (spl (ROW q) (i*1) vs)).drew.heap[g]? =some (.cells cur e' (0,0)):=by
          show (((w.drewN q).drew.alloc (.cells (ROW q) 3)).setRow w.heap.size (spl (ROW q) (i*1) vs)).heap[g]? =_
          rw [setRow_other _ w.heap.size g _ (by omega),hold q g hlt]; exact hg
        have:=run_copy_rows (P:=Tryz.prog) (((w.drewN q).drew.alloc (.cells (ROW q) 3)).setRow w.heap.size (spl (ROW q) (i*1) vs)).drew 27 27 ty 3 1 w.heap.size ((i+m)*1) (n - j) dc ⟨g,j*1,none⟩ (n - j) sc _ 3 cs q2c q1o hh (by rw [hcl,hmin2]) (fun q' v hq=>cell_at hh2 (get_drop htd q' v hq)) (hfb q) h1s
        rw [hmin2] at this
        simpa using this
      · rintro en w' ⟨q,rfl,rfl⟩
        refine ⟨_,rfl,⟨3,?_⟩,?_,fun b hb=>.inr (by simp [Value.ownBlock] at hb; omega)⟩
        · refine own_make (setRow_heap _ _ _ _ 3 _ (setRow_heap _ _ _ _ 3 _ (hnew q))) hys (hG q) (hGm q) (by rw [spl_size (hfb q),spl_size (hfa q)]; exact hrs q) ?_
          have e1:=spl_take (hfb q)
          rw [show (i+m)*1+cs.length=(i+m+(n - j))*1 by omega] at e1
          rw [e1]
          have e2:=spl_take (hfa q)
          rw [show i*1+vs.length=(i+m)*1 by omega] at e2
          rw [e2,hrt q]
        · have f0:Fr (fun b _=>b=g∨w.heap.size≤b) w ((w.drewN q).drew.alloc (.cells (ROW q) 3)):=((qoq w q).mono fun _ _ _ h=>h.elim).trans (((fr_drew _).mono fun _ _ _ h=>h.elim).trans ((fr_alloc _ _).mono fun _ _ _ h=>h.elim))
          have f1:=fr_new f0 (Nat.le_refl _) (hnew q) (spl_size (hfa q))
          have f2:=fr_new (f1.trans ((fr_drew _).mono fun _ _ _ h=>h.elim)) (Nat.le_refl _) (setRow_heap _ _ _ _ 3 _ (hnew q)) (spl_size (hfb q))
          exact f2.mono fun x y hx h=>h.elim id fun h=>by omega

theorem q29: ∀ w,(zeroValue 81).run Tryz.prog w=.ok (.agg #[.int .i64 0,.int .i64 0,.int .i64 0]) w:=fun w=>by
  obtain ⟨i0,hi,h0,h1,h2⟩:=info_parts qo4
  simp [zeroValue,typeInfo,hi,h0]
set_option maxHeartbeats 1000000 in
set_option maxRecDepth 100000 in
theorem qxb (w:World)(g n c i j m vc:Nat)(a:Addr)(xs vs:List Value)(e' :TypeId)(hij:i<j)(hj:j≤n)(hm:1≤m)(hne:i+m≠j)(hn:n≤549755813888)(hmb:m≤549755813888)
    (own:w.ownsRow 0 e' 3 (.slice (some ⟨g,0,none⟩) n c) n xs) (hva:a.block≠g) (hvl:vs.length=m*3) (hv: ∀ q v,vs[q]? =some v→w.cell? (a.add q)=some v)
    (h1c: ∀ v∈xs,v.oneCell' =true) (h1v: ∀ v∈vs,v.oneCell' =true):
    Calls Tryz.prog 273 #[.slice (some ⟨g,0,none⟩) n c,.int .i64 i,.int .i64 j,.slice (some a) m vc] w (RepPost 3 w g (i+m+(n - j)) (xs.take (i*3)++vs++xs.drop (j*3))):=by
  have own0:=own
  obtain ⟨hxl,hx | ⟨g',cap,cur,e1,_,hg,hnc,hcm,hcs,htk⟩⟩:=own
  · simp at hx
  simp only [Value.slice.injEq,Option.some.injEq,Addr.mk.injEq,and_true,true_and] at e1
  obtain ⟨rfl,rfl⟩:=e1
  have hcm' :=hcm
  unfold maxLen at hcm'
  obtain ⟨i0,hi,hz0,hzs,hzb⟩:=info_parts qo4
  have hlt:g<w.heap.size:=(Array.getElem?_eq_some_iff.1 hg).1
  have hcur:cur.toList.length=c*3:=by rw [Array.length_toList]; exact hcs
  have htA:xs.take (i*3)=cur.toList.take (i*3):=by rw [← htk,take_take_le _ (by omega)]
  have h1z: ∀ n,∀ v∈(Builtin.zeroCells ((.agg #[.int .i64 0,.int .i64 0,.int .i64 0]):Value).cells n).toList,v.oneCell' =true:=fun n=>zeroCells_oneCell (by intro v hv; simp [Value.cells] at hv; rcases hv with rfl | rfl | rfl<;>rfl) n
  have lz: ∀ n,(Builtin.zeroCells ((.agg #[.int .i64 0,.int .i64 0,.int .i64 0]):Value).cells n).toList.length=n*3:=fun n=>by simp [Builtin.zeroCells,Value.cells]
  by_cases hjn:j=n
  · have hys:xs.take (i*3)++vs++xs.drop (j*3)=xs.take (i*3)++vs:=by rw [List.drop_of_length_le (by omega),List.append_nil]
    have owni:w.ownsRow 0 e' i0.size (.slice (some ⟨g,0,none⟩) i c) i (xs.take (i*3)):=by
      rw [hzs]; exact own_make hg (by rw [List.length_take]; omega) (by omega) hcm hcs (by rw [htA])
    obtain ⟨u',w1,e2,hr,hown,hfr,_,hblk⟩:=append_any (P:=Tryz.prog) (w:=w) (t:=24) (t2:=24) (ty:=24) (e:=81) (e' :=e') (d2:=.slice 81) (i:=i0) (z:=(.agg #[.int .i64 0,.int .i64 0,.int .i64 0])) q2b q2b (fun k h=>by cases h) hi hz0 (by rw [hzs]; rfl) (by omega) (by omega)
      (u:=.slice (some ⟨g,0,none⟩) i c) (x:=.slice (some a) m vc) (n:=i) (m:=m) (xs:=xs.take (i*3)) (news:=vs) rfl
      (fun w1 h=>by
        rw [hzs]
        rcases h with rfl | rfl
        · exact run_firstCells_some w1 3 m a m vc vs hvl hv
        · exact run_firstCells_some w.drew 3 m a m vc vs hvl hv) (by rw [hvl,hzs]) h1v owni (by unfold bigLen; omega)
    have hfr' :Fr (fun b _=>b=g) w w1:=hfr.mono fun x y _ h=>by simp [Value.ownBlock] at h; exact h.symm
    rw [hzs] at hown
    have hown0:=hown
    obtain ⟨_,⟨_,h0⟩ | ⟨g1,cap1,cur1,rfl,_⟩⟩:=hown
    · omega
    have hblk' : ∀ b,(Value.slice (some ⟨g1,0,none⟩) (i+m) cap1).ownBlock=some b→b=g∨w.heap.size≤b:=fun b hb=>(hblk b hb).imp (fun h=>by simp [Value.ownBlock] at h; exact h.symm) id
    by_cases hcut:i+m<n
    · obtain ⟨cu,hcu,hcz⟩:=fr_at hfr' hg
      have hfit:(i+m)*3+(Builtin.zeroCells ((.agg #[.int .i64 0,.int .i64 0,.int .i64 0]):Value).cells (n - (i+m))).toList.length≤cu.size:=by rw [lz]; omega
      refine (qw7 g n c i j m vc cap1 a ⟨g1,0,none⟩ w w1 _ hij hjn hnc (by omega) hcm' hcut (by omega) hr (fun ty kc=>run_clear_rows w1 24 81 ty (.agg #[.int .i64 0,.int .i64 0,.int .i64 0]) q2b q29 h1z g ((i+m)*3) (n - (i+m)) kc (by omega) cu e' hcu (by omega))).mono ?_
      rintro en w' ⟨rfl,rfl⟩
      refine ⟨_,rfl,⟨e2,?_⟩,hfr'.trans (fr_row hcu (spl_size (by omega))),hblk'⟩
      rw [hys,show i+m+(n - j)=i+m by omega]
      exact own_clear hown0 hcu (by omega) (by omega)
    · refine (qw9 g n c i j m vc cap1 a ⟨g1,0,none⟩ w w1 hij hjn hnc (by omega) hcm' (by omega) (by omega) hr).mono ?_
      rintro en w' ⟨rfl,rfl⟩
      refine ⟨_,rfl,⟨e2,?_⟩,hfr',hblk'⟩
      rw [hys,show i+m+(n - j)=i+m by omega]
      exact hown0
  · have hj' :j<n:=by omega
    obtain ⟨cs,hcsd⟩: ∃ cs,cs=xs.drop (j*3):=⟨_,rfl⟩
    have hcl:cs.length=(n - j)*3:=by rw [hcsd,List.length_drop]; omega
    have h1s: ∀ v∈cs,v.oneCell' =true:=fun v hv=>h1c v (by rw [hcsd] at hv; exact List.mem_of_mem_drop hv)
    have htd:(cur.toList.drop (j*3)).take ((n - j)*3)=cs:=by rw [hcsd,← htk,List.drop_take]; congr 1; omega
    have hys:(xs.take (i*3)++vs++cs).length=(i+m+(n - j))*3:=by
      rw [List.length_append,List.length_append,List.length_take]; omega
    rw [← hcsd]
    have hmin:Nat.min m (i+m+(n - j) - i)=m:=by simp only [Nat.min_def]; split<;>omega
    have hmin2:Nat.min (n - j) (n - j)=n - j:=Nat.min_self _
    by_cases hroom:i+m+(n - j)≤c
    · by_cases hgr:j<i+m
      · have hfa:(i+m)*3+cs.length≤cur.size:=by omega
        have hfb:i*3+vs.length≤(spl cur ((i+m)*3) cs).size:=by rw [spl_size hfa]; omega
        obtain ⟨tB,kB,hsb,hkB⟩:=shape_of (by omega) hv
        refine (qxh g n c i j m vc a w (fun q=>(w.drewN q).setRow g (spl cur ((i+m)*3) cs)) (fun q=>((w.drewN q).setRow g (spl cur ((i+m)*3) cs)).setRow g (spl (spl cur ((i+m)*3) cs) (i*3) vs)) hij hj' hnc (by omega) hcm' hgr (by omega) hroom ?_ ?_ ?_).mono ?_
        · intro q lb cb
          rw [run_callFunc_extern Tryz.func283 (by kernel_rfl) (by kernel_rfl) (by kernel_rfl) (e:=Extern.SlicesOverlaps.overlaps #[24,24] #[4]) (by kernel_rfl),
            Lib.run_overlaps_apart (w.drewN q) 24 4 81 q2b 3 q1d ⟨g,((i+m)*3),none⟩ a lb cb m vc (fun h=>hva h.symm) e' tB cur.size kB (by simp [World.shape?,hg]) (by simpa [World.shape?] using hsb) hkB (by simp [World.frozen?,hg]) (by simp [World.frozen?,hg])]
          rfl
        · intro q ty dc sc
          have:=run_copy_rows (P:=Tryz.prog) (w.drewN q) 24 24 ty 81 3 g ((i+m)*3) (n - j) dc ⟨g,j*3,none⟩ (n - j) sc cur e' cs q2b q1n hg (by rw [hcl,hmin2]) (fun q' v hq=>by rw [Addr.add_lit]; simpa [World.cell?,hg] using get_drop htd q' v hq) hfa h1s
          rw [hmin2] at this
          simpa using this
        · intro q ty dc
          have:=run_copy_rows (P:=Tryz.prog) ((w.drewN q).setRow g (spl cur ((i+m)*3) cs)) 24 24 ty 81 3 g (i*3) (i+m+(n - j) - i) dc a m vc (spl cur ((i+m)*3) cs) e' vs q2b q1n (setRow_heap _ g cur _ e' _ hg) (by rw [hvl,hmin]) (fun q' v hq=>by rw [cell_setRow hva]; exact hv q' v hq) hfb h1v
          rw [hmin] at this
          simpa using this
        · rintro en w' ⟨q,rfl,rfl⟩
          refine ⟨_,rfl,⟨e',?_⟩,?_,fun b hb=>.inl (by simp [Value.ownBlock] at hb; exact hb.symm)⟩
          · refine own_make (setRow_heap _ g _ _ e' _ (setRow_heap _ g cur _ e' _ hg)) hys hroom hcm (by rw [spl_size hfb,spl_size hfa]; exact hcs) ?_
            have d1:(spl cur ((i+m)*3) cs).toList.drop ((i+m)*3)=cs++cur.toList.drop ((i+m)*3+cs.length):=by
              show List.drop _ (cur.toList.take ((i+m)*3)++cs++cur.toList.drop ((i+m)*3+cs.length))=_
              rw [List.append_assoc,List.drop_left' (by rw [List.length_take]; omega)]
            show List.take _ ((spl cur ((i+m)*3) cs).toList.take (i*3)++vs++(spl cur ((i+m)*3) cs).toList.drop (i*3+vs.length))=_
            rw [show i*3+vs.length=(i+m)*3 by omega,d1,spl_take_lo (by omega) (by omega),htA,← List.append_assoc]
            exact List.take_left' (by rw [← htA]; exact hys)
          · rw [setRow_setRow]
            exact (((qoq w q).mono fun _ _ _ h=>h.elim).trans (fr_row (w:=w.drewN q) hg (by rw [spl_size hfb,spl_size hfa])))
      · have hfa:i*3+vs.length≤cur.size:=by omega
        have hfb:(i+m)*3+cs.length≤(spl cur (i*3) vs).size:=by rw [spl_size hfa]; omega
        have hfc:(i+m+(n - j))*3+(Builtin.zeroCells ((.agg #[.int .i64 0,.int .i64 0,.int .i64 0]):Value).cells (n - (i+m+(n - j)))).toList.length≤(spl (spl cur (i*3) vs) ((i+m)*3) cs).size:=by rw [spl_size hfb,spl_size hfa,lz]; omega
        have htd1:((spl cur (i*3) vs).toList.drop (j*3)).take ((n - j)*3)=cs:=by rw [spl_drop_hi (by omega) hfa]; exact htd
        refine (qxd g n c i j m vc a w (fun q=>(w.drewN q).setRow g (spl cur (i*3) vs)) (fun q=>((w.drewN q).setRow g (spl cur (i*3) vs)).drew.setRow g (spl (spl cur (i*3) vs) ((i+m)*3) cs)) (fun q=>(((w.drewN q).setRow g (spl cur (i*3) vs)).drew.setRow g (spl (spl cur (i*3) vs) ((i+m)*3) cs)).setRow g (spl (spl (spl cur (i*3) vs) ((i+m)*3) cs) ((i+m+(n - j))*3) (Builtin.zeroCells ((.agg #[.int .i64 0,.int .i64 0,.int .i64 0]):Value).cells (n - (i+m+(n - j)))).toList)) hij hj' hnc (by omega) hcm' (by omega) (by omega) ?_ ?_ ?_).mono ?_
        · intro q ty dc
          have:=run_copy_rows (P:=Tryz.prog) (w.drewN q) 24 24 ty 81 3 g (i*3) (i+m+(n - j) - i) dc a m vc cur e' vs q2b q1n hg (by rw [hvl,hmin]) hv hfa h1v
          rw [hmin] at this
          simpa using this
        · intro q ty dc sc
          have hh:((w.drewN q).setRow g (spl cur (i*3) vs)).drew.heap[g]? =some (.cells (spl cur (i*3) vs) e' (0,0)):=setRow_heap _ g cur _ e' _ hg
          have:=run_copy_rows (P:=Tryz.prog) ((w.drewN q).setRow g (spl cur (i*3) vs)).drew 24 24 ty 81 3 g ((i+m)*3) (n - j) dc ⟨g,j*3,none⟩ (n - j) sc _ e' cs q2b q1n hh (by rw [hcl,hmin2]) (fun q' v hq=>cell_at hh (get_drop htd1 q' v hq)) hfb h1s
          rw [hmin2] at this
          simpa using this
        · intro q ty kc
          have:=run_clear_rows (P:=Tryz.prog) _ 24 81 ty (.agg #[.int .i64 0,.int .i64 0,.int .i64 0]) q2b q29 h1z g ((i+m+(n - j))*3) (n - (i+m+(n - j))) kc (by omega) _ e' (setRow_heap ((w.drewN q).setRow g (spl cur (i*3) vs)).drew g _ (spl (spl cur (i*3) vs) ((i+m)*3) cs) e' _ (setRow_heap (w.drewN q) g cur _ e' _ hg)) hfc
          simpa using this
        · rintro en w' ⟨q,rfl,rfl⟩
          refine ⟨_,rfl,⟨e',?_⟩,?_,fun b hb=>.inl (by simp [Value.ownBlock] at hb; exact hb.symm)⟩
          · refine own_make (setRow_heap _ g _ _ e' _ (setRow_heap _ g _ _ e' _ (setRow_heap (w.drewN q) g cur _ e' _ hg))) hys hroom hcm (by rw [spl_size hfc,spl_size hfb,spl_size hfa]; exact hcs) ?_
            rw [spl_take_lo (by omega) (by rw [spl_size hfb,spl_size hfa]; omega)]
            have e1:=spl_take hfb
            rw [show (i+m)*3+cs.length=(i+m+(n - j))*3 by omega] at e1
            rw [e1]
            have e2:=spl_take hfa
            rw [show i*3+vs.length=(i+m)*3 by omega] at e2
            rw [e2,htA]
          · have f1:=fr_row (w:=w.drewN q) hg (spl_size hfa)
            have g1:=setRow_heap (w.drewN q) g cur (spl cur (i*3) vs) e' _ hg
            have f2:=fr_row (w:=((w.drewN q).setRow g (spl cur (i*3) vs)).drew) g1 (spl_size hfb)
            have g2:=setRow_heap ((w.drewN q).setRow g (spl cur (i*3) vs)).drew g _ (spl (spl cur (i*3) vs) ((i+m)*3) cs) e' _ g1
            have f3:=fr_row g2 (spl_size hfc)
            exact ((qoq w q).mono fun _ _ _ h=>h.elim).trans (f1.trans (((fr_drew _).mono fun _ _ _ h=>h.elim).trans (f2.trans f3)))
    · obtain ⟨ROW,hROW⟩: ∃ ROW:Nat→Array Value,ROW=fun q=>(xs.take (i*3)).toArray++Builtin.zeroCells ((.agg #[.int .i64 0,.int .i64 0,.int .i64 0]):Value).cells (m+(n - j))++Builtin.zeroCells ((.agg #[.int .i64 0,.int .i64 0,.int .i64 0]):Value).cells (grownCap (w.drewN q) (i+(m+(n - j))) c 81 - (i+(m+(n - j)))):=⟨_,rfl⟩
      obtain ⟨G,hGd⟩: ∃ G:Nat→Nat,G=fun q=>grownCap (w.drewN q) (i+(m+(n - j))) c 81:=⟨_,rfl⟩
      have hG: ∀ q,i+m+(n - j)≤G q:=fun q=>by have:=grownCap_ge (w.drewN q) (i+(m+(n - j))) c 81; rw [hGd]; show i+m+(n - j)≤grownCap (w.drewN q) (i+(m+(n - j))) c 81; omega
      have hGm: ∀ q,G q≤maxLen:=fun q=>by rw [hGd]; exact grownCap_le_maxLen _ _ _ _ (by unfold maxLen; omega)
      have hrs: ∀ q,(ROW q).size=G q*3:=fun q=>by
        have:=hG q
        rw [hGd] at this ⊢
        rw [hROW]
        simp only [Array.size_append,List.size_toArray,List.length_take]
        rw [← Array.length_toList (xs:=Builtin.zeroCells _ _),lz,← Array.length_toList (xs:=Builtin.zeroCells _ _),lz]
        simp only at this
        omega
      have hrt: ∀ q,(ROW q).toList.take (i*3)=xs.take (i*3):=fun q=>by
        rw [hROW]
        simp only [Array.toList_append,List.append_assoc]
        exact List.take_left' (by rw [List.length_take]; omega)
      have hap: ∀ q,(Builtin.append_ #[24,3] 24 #[.slice (some ⟨g,0,none⟩) i c,.int .i64 ((i:Int)+(m:Int)+((n - j:Nat):Int) - (i:Int))]).run Tryz.prog (w.drewN q)=.ok (.slice (some ⟨w.heap.size,0,none⟩) (i+m+(n - j)) (G q)) ((w.drewN q).drew.alloc (.cells (ROW q) 81)):=fun q=>by
        have hold:(Builtin.firstCells i0.size i (.slice (some ⟨g,0,none⟩) i c)).run Tryz.prog (w.drewN q).drew=.ok (xs.take (i*3)).toArray (w.drewN q).drew:=by
          rw [hzs]
          exact run_firstCells_some _ 3 i ⟨g,0,none⟩ i c _ (by rw [List.length_take]; omega) (fun q' v hq=>by
            rw [Addr.add_lit]
            have:=get_drop (cur:=cur) (o:=0) (L:=i*3) (cs:=xs.take (i*3)) (by rw [List.drop_zero,htA]) q' v hq
            simpa [World.cell?,hg] using this)
        have h:=Lib.run_append_grow_zeros (P:=Tryz.prog) (w.drewN q) 24 3 24 81 i0 (.agg #[.int .i64 0,.int .i64 0,.int .i64 0]) .i64 .i64 q2b (by kernel_rfl) hi hz0 (some ⟨g,0,none⟩) i c (xs.take (i*3)) hold (m+(n - j)) (by omega) (by omega) (by omega) (by omega) (by rw [hzb]; omega) (by rw [hzb]; exact growslice_fits (by omega) (by omega))
        rw [show (i:Int)+(m:Int)+((n - j:Nat):Int) - (i:Int)=((m+(n - j):Nat):Int) by omega,show i+m+(n - j)=i+(m+(n - j)) by omega,hGd,hROW]
        exact h
      have hfa: ∀ q,i*3+vs.length≤(ROW q).size:=fun q=>by rw [hrs q]; have:=hG q; omega
      have hfb: ∀ q,(i+m)*3+cs.length≤(spl (ROW q) (i*3) vs).size:=fun q=>by rw [spl_size (hfa q),hrs q]; have:=hG q; omega
      have hnew: ∀ q,((w.drewN q).drew.alloc (.cells (ROW q) 81)).heap[w.heap.size]? =some (.cells (ROW q) 81 (0,0)):=fun q=>heap_alloc_new (w.drewN q).drew _
      have hold: ∀ q b,b<w.heap.size→((w.drewN q).drew.alloc (.cells (ROW q) 81)).heap[b]? =w.heap[b]? :=fun q b hb=>by
        show (w.heap.push _)[b]? =_
        rw [Array.getElem?_push,if_neg (by omega)]
      have hab:a.block<w.heap.size:=block_lt_of_cell (hv 0 _ (List.getElem?_eq_getElem (show 0<vs.length by omega)))
      refine (qxf g n c i j m vc w.heap.size a w G (fun q=>(w.drewN q).drew.alloc (.cells (ROW q) 81)) (fun q=>((w.drewN q).drew.alloc (.cells (ROW q) 81)).setRow w.heap.size (spl (ROW q) (i*3) vs)) (fun q=>(((w.drewN q).drew.alloc (.cells (ROW q) 81)).setRow w.heap.size (spl (ROW q) (i*3) vs)).drew.setRow w.heap.size (spl (spl (ROW q) (i*3) vs) ((i+m)*3) cs)) hij hj' hnc (by omega) hcm' (by omega) (by omega) hG hap ?_ ?_).mono ?_
      · intro q ty dc
        have:=run_copy_rows (P:=Tryz.prog) ((w.drewN q).drew.alloc (.cells (ROW q) 81)) 24 24 ty 81 3 w.heap.size (i*3) (i+m+(n - j) - i) dc a m vc (ROW q) 81 vs q2b q1n (hnew q) (by rw [hvl,hmin]) (fun q' v hq=>by
          rw [← hv q' v hq]; simp only [World.cell?,addr_block]; rw [hold q a.block hab]) (hfa q) h1v
        rw [hmin] at this
        simpa using this
      · intro q ty dc sc
        have hh:(((w.drewN q).drew.alloc (.cells (ROW q) 81)).setRow w.heap.size (spl (ROW q) (i*3) vs)).drew.heap[w.heap.size]? =some (.cells (spl (ROW q) (i*3) vs) 81 (0,0)):=setRow_heap _ _ _ _ 81 _ (hnew q)
        have hh2:(((w.drewN q).drew.alloc (.cells (ROW q) 81)).setRow w.heap.size (spl (ROW q) (i*3) vs)).drew.heap[g]? =some (.cells cur e' (0,0)):=by
          show (((w.drewN q).drew.alloc (.cells (ROW q) 81)).setRow w.heap.size (spl (ROW q) (i*3) vs)).heap[g]? =_
          rw [setRow_other _ w.heap.size g _ (by omega),hold q g hlt]; exact hg
        have:=run_copy_rows (P:=Tryz.prog) (((w.drewN q).drew.alloc (.cells (ROW q) 81)).setRow w.heap.size (spl (ROW q) (i*3) vs)).drew 24 24 ty 81 3 w.heap.size ((i+m)*3) (n - j) dc ⟨g,j*3,none⟩ (n - j) sc _ 81 cs q2b q1n hh (by rw [hcl,hmin2]) (fun q' v hq=>cell_at hh2 (get_drop htd q' v hq)) (hfb q) h1s
        rw [hmin2] at this
        simpa using this
      · rintro en w' ⟨q,rfl,rfl⟩
        refine ⟨_,rfl,⟨81,?_⟩,?_,fun b hb=>.inr (by simp [Value.ownBlock] at hb; omega)⟩
        · refine own_make (setRow_heap _ _ _ _ 81 _ (setRow_heap _ _ _ _ 81 _ (hnew q))) hys (hG q) (hGm q) (by rw [spl_size (hfb q),spl_size (hfa q)]; exact hrs q) ?_
          have e1:=spl_take (hfb q)
          rw [show (i+m)*3+cs.length=(i+m+(n - j))*3 by omega] at e1
          rw [e1]
          have e2:=spl_take (hfa q)
          rw [show i*3+vs.length=(i+m)*3 by omega] at e2
          rw [e2,hrt q]
        · have f0:Fr (fun b _=>b=g∨w.heap.size≤b) w ((w.drewN q).drew.alloc (.cells (ROW q) 81)):=((qoq w q).mono fun _ _ _ h=>h.elim).trans (((fr_drew _).mono fun _ _ _ h=>h.elim).trans ((fr_alloc _ _).mono fun _ _ _ h=>h.elim))
          have f1:=fr_new f0 (Nat.le_refl _) (hnew q) (spl_size (hfa q))
          have f2:=fr_new (f1.trans ((fr_drew _).mono fun _ _ _ h=>h.elim)) (Nat.le_refl _) (setRow_heap _ _ _ _ 81 _ (hnew q)) (spl_size (hfb q))
          exact f2.mono fun x y hx h=>h.elim id fun h=>by omega
end Go.Proofs.YtjfjniebmdafeaaGreatDoor
end
section
namespace Go.Proofs.YtjfjniebmdafeaaGreatDoor
open Go.RowKit Go.Lib Go.Ev Go.Shelf

theorem qez (k:Nat)(z z' :Bool)(l v:List Int)(i j:Int)(hi:0≤i)(hij:i<j)(hj:j≤(l.length:Int))(hv:1≤v.length)(hne:¬ i+(v.length:Int)=j)(hl:l.length≤1048576)(hvl:v.length≤1048576):
    go (k+1) slices_Replace_int_int [.arr true z (.ints .i64 l),.int .i64 i,.int .i64 j,.arr false z' (.ints .i64 v)]=some [.arr true false (.ints .i64 (l.take i.toNat++v++l.drop j.toNat))]:=by
  have e:go (k+1) slices_Replace_int_int [.arr true z (.ints .i64 l),.int .i64 i,.int .i64 j,.arr false z' (.ints .i64 v)]=repGo (.ints .i64 l) (.ints .i64 v) i j:=Eq.trans rfl rfl
  have hl' :(Arr.len (Arr.ints .i64 l))=l.length:=rfl
  have hv' :(Arr.len (Arr.ints .i64 v))=v.length:=rfl
  have hr:repA (.ints .i64 l) (.ints .i64 v) i.toNat j.toNat=some (.ints .i64 (l.take i.toNat++v++l.drop j.toNat)):=by
    have hd:List.take (l.length - j.toNat) (List.drop j.toNat l)=List.drop j.toNat l:=List.take_of_length_le (by rw [List.length_drop]; omega)
    simp [repA,Arr.sub,Arr.app,Arr.len,hd]
  rw [e]
  unfold repGo
  rw [hl',hv',hr]
  simp [hi,hij,hj,hv,hne,show l.length≤549755813888 by omega,show v.length≤549755813888 by omega]
theorem qvw (x:List Int):okTs Tryz.prog [27] [.arr true false (.ints .i64 x)]=true:=by kernel_rfl
set_option maxRecDepth 100000 in
theorem qqf (ds rs:List D)(h:repI ds=some rs):Contract Tryz.prog 265 [] ds rs:=by
  unfold repI at h
  split at h
  · rename_i z l i j z' v
    unfold repGo at h
    cases hc:(decide (0≤i)&&decide (i<j)&&decide (j≤((Arr.len (Arr.ints .i64 l)):Int))&&decide (1≤(Arr.len (Arr.ints .i64 v)))&&!decide (i+((Arr.len (Arr.ints .i64 v)):Int)=j)&&decide ((Arr.len (Arr.ints .i64 l))≤549755813888)&&decide ((Arr.len (Arr.ints .i64 v))≤549755813888))
    · rw [hc] at h; cases h
    rw [hc,qie,Option.map_eq_some_iff] at h
    obtain ⟨c,hr,rfl⟩:=h
    simp only [Bool.and_eq_true,decide_eq_true_eq,Bool.not_eq_true',decide_eq_false_iff_not] at hc
    obtain ⟨⟨⟨⟨⟨⟨h1,h2⟩,h3⟩,h4⟩,h5⟩,h6⟩,h7⟩:=hc
    have hck:okTs Tryz.prog [27] [.arr true false c]=true:=by
      have:c=.ints .i64 (l.take i.toNat++v++l.drop j.toNat):=by
        have hd:List.take (l.length - j.toNat) (List.drop j.toNat l)=List.drop j.toNat l:=List.take_of_length_le (by rw [List.length_drop]; omega)
        simp [repA,Arr.sub,Arr.app,Arr.len,hd] at hr
        rw [← hr]; simp
      rw [this]; exact qvw _
    refine rep_contract (fn:=Tryz.f265) (S:=27) Tryz.func265 (by kernel_rfl) (by kernel_rfl) hck h1 h2 h3 h4 rfl hr (fun w g cap vc x e' own hx hv=> ?_)
    exact qxc w g _ cap _ _ _ vc x _ _ e' (by omega) (by omega) h4 (by omega) h6 h7 own hx (Arr.cells_length _) hv (Arr.cells_one _) (Arr.cells_one _)
  · cases h

theorem qey (k:Nat)(z z' :Bool)(l v:List (Int×Int×Int))(i j:Int)(hi:0≤i)(hij:i<j)(hj:j≤(l.length:Int))(hv:1≤v.length)(hne:¬ i+(v.length:Int)=j)(hl:l.length≤1048576)(hvl:v.length≤1048576):
    go (k+1) slices_Replace_impl_Id_impl_Id [.arr true z (.r3 l),.int .i64 i,.int .i64 j,.arr false z' (.r3 v)]=some [.arr true false (.r3 (l.take i.toNat++v++l.drop j.toNat))]:=by
  have e:go (k+1) slices_Replace_impl_Id_impl_Id [.arr true z (.r3 l),.int .i64 i,.int .i64 j,.arr false z' (.r3 v)]=repGo (.r3 l) (.r3 v) i j:=Eq.trans rfl rfl
  have hl' :(Arr.len (Arr.r3 l))=l.length:=rfl
  have hv' :(Arr.len (Arr.r3 v))=v.length:=rfl
  have hr:repA (.r3 l) (.r3 v) i.toNat j.toNat=some (.r3 (l.take i.toNat++v++l.drop j.toNat)):=by
    have hd:List.take (l.length - j.toNat) (List.drop j.toNat l)=List.drop j.toNat l:=List.take_of_length_le (by rw [List.length_drop]; omega)
    simp [repA,Arr.sub,Arr.app,Arr.len,hd]
  rw [e]
  unfold repGo
  rw [hl',hv',hr]
  simp [hi,hij,hj,hv,hne,show l.length≤549755813888 by omega,show v.length≤549755813888 by omega]
theorem qvv (x:List (Int×Int×Int)):okTs Tryz.prog [24] [.arr true false (.r3 x)]=true:=by kernel_rfl
set_option maxRecDepth 100000 in
theorem qqe (ds rs:List D)(h:rep3 ds=some rs):Contract Tryz.prog 273 [] ds rs:=by
  unfold rep3 at h
  split at h
  · rename_i z l i j z' v
    unfold repGo at h
    cases hc:(decide (0≤i)&&decide (i<j)&&decide (j≤((Arr.len (Arr.r3 l)):Int))&&decide (1≤(Arr.len (Arr.r3 v)))&&!decide (i+((Arr.len (Arr.r3 v)):Int)=j)&&decide ((Arr.len (Arr.r3 l))≤549755813888)&&decide ((Arr.len (Arr.r3 v))≤549755813888))
    · rw [hc] at h; cases h
    rw [hc,qie,Option.map_eq_some_iff] at h
    obtain ⟨c,hr,rfl⟩:=h
    simp only [Bool.and_eq_true,decide_eq_true_eq,Bool.not_eq_true',decide_eq_false_iff_not] at hc
    obtain ⟨⟨⟨⟨⟨⟨h1,h2⟩,h3⟩,h4⟩,h5⟩,h6⟩,h7⟩:=hc
    have hck:okTs Tryz.prog [24] [.arr true false c]=true:=by
      have:c=.r3 (l.take i.toNat++v++l.drop j.toNat):=by
        have hd:List.take (l.length - j.toNat) (List.drop j.toNat l)=List.drop j.toNat l:=List.take_of_length_le (by rw [List.length_drop]; omega)
        simp [repA,Arr.sub,Arr.app,Arr.len,hd] at hr
        rw [← hr]; simp
      rw [this]; exact qvv _
    refine rep_contract (fn:=Tryz.f273) (S:=24) Tryz.func273 (by kernel_rfl) (by kernel_rfl) hck h1 h2 h3 h4 rfl hr (fun w g cap vc x e' own hx hv=> ?_)
    exact qxb w g _ cap _ _ _ vc x _ _ e' (by omega) (by omega) h4 (by omega) h6 h7 own hx (Arr.cells_length _) hv (Arr.cells_one _) (Arr.cells_one _)
  · cases h
end Go.Proofs.YtjfjniebmdafeaaGreatDoor
end
section
namespace Go.Proofs.YtjfjniebmdafeaaGreatDoor
open Go.RowKit Go.Lib Go.Ev Go.Shelf Go.Sort
theorem qvy (s:ByteArray):okTs Tryz.prog [9] [.str s]=true:=by kernel_rfl
theorem qqa (ds rs:List D)(h:itoaGo ds=some rs):Contract Tryz.prog 80 [] ds rs:=by
  unfold itoaGo at h
  split at h
  · rename_i n
    cases hn:inI64 n
    · rw [hn] at h; cases h
    rw [hn] at h
    have h:=Option.some.inj (show some _=some rs from h)
    subst h
    refine str_contract (fn:=Tryz.f80) (S:=9) Tryz.func80 (by kernel_rfl) (by kernel_rfl) (qvy _) (fun w args FF hk hd=> ?_)
    simp only [RepDs,RepD] at hd
    obtain ⟨u,us,F1,F2,e0,rfl,⟨rfl,rfl⟩,rfl,rfl⟩:=hd
    have ha:args= #[.int .i64 n]:=by rw [← Array.toArray_toList (xs:=args),e0]
    subst ha
    exact qpy n hn w hk
  · cases h
theorem qqg (ds rs:List D)(h:spacedGo ds=some rs):Contract Tryz.prog 30 [] ds rs:=by
  unfold spacedGo at h
  split at h
  · rename_i wd z l
    cases hn:(decide (wd.size≤1000)&&(decide (l.length≤1000)&&l.all inI64))
    · rw [hn] at h; cases h
    rw [hn] at h
    have h:=Option.some.inj (show some _=some rs from h)
    subst h
    simp only [Bool.and_eq_true,decide_eq_true_eq,List.all_eq_true] at hn
    obtain ⟨hw,hl,hx⟩:=hn
    refine str_contract (fn:=Tryz.f30) (S:=9) Tryz.func30 (by kernel_rfl) (by kernel_rfl) (qvy _) (fun w args FF hk hd=> ?_)
    simp only [RepDs,RepD] at hd
    obtain ⟨u0,us0,F0,F0',e0,rfl,⟨rfl,rfl⟩,u1,us1,F1,F1',rfl,rfl,⟨p,rfl,rp,rfl⟩,rfl,rfl⟩:=hd
    have ha:args= #[.string wd,.slice p.base p.len p.cap]:=by rw [← Array.toArray_toList (xs:=args),e0]
    subst ha
    obtain ⟨r1,r2,r3,r4,r5,r6⟩:=rp
    have r1' :l.length=p.len:=r1
    cases hb:p.base with
    | none=>
      have h0:=(r4 hb).2
      have:l=[]:=List.eq_nil_of_length_eq_zero (by omega)
      subst this
      rw [h0]
      exact q0l wd p.cap w hk hw
    | some b=>
      have hc:=(r5 b hb).2
      rw [← r1']
      refine q0m wd l b p.cap w hk hw hl hx (fun i x hi=>hc i _ ?_)
      show (l.map fun n=>Value.int .i64 n)[i]? =_
      rw [List.getElem?_map,hi]; rfl
  · cases h
theorem withExt: ∀ f g,An.ext f=some g→ ∀ ds rs,g ds=some rs→Contract Tryz.prog f (An.mode f) ds rs:=by
  intro f g h ds rs hd
  by_cases h0:f=80
  · subst h0
    have e:An.ext 80=some itoaGo:=rfl
    rw [e] at h; cases h
    exact qqa ds rs hd
  by_cases h1:f=30
  · subst h1
    have e:An.ext 30=some spacedGo:=rfl
    rw [e] at h; cases h
    exact qqg ds rs hd
  by_cases h2:f=31
  · subst h2
    have e:An.ext 31=some fmeshGo:=rfl
    rw [e] at h; cases h
    exact qp9 ds rs hd
  by_cases h3:f=91
  · subst h3
    have e:An.ext 91=some fldGo:=rfl
    rw [e] at h; cases h
    exact qp8 ds rs hd
  by_cases h4:f=96
  · subst h4
    have e:An.ext 96=some joinGo:=rfl
    rw [e] at h; cases h
    exact qqb ds rs hd
  by_cases h5:f=94
  · subst h5
    have e:An.ext 94=some pnumGo:=rfl
    rw [e] at h; cases h
    exact qqd ds rs hd
  by_cases h6:f=46
  · subst h6
    have e:An.ext 46=some splitGo:=rfl
    rw [e] at h; cases h
    exact qqh ds rs hd
  by_cases h7:f=265
  · subst h7
    have e:An.ext 265=some repI:=rfl
    rw [e] at h; cases h
    exact qqf ds rs hd
  by_cases h8:f=273
  · subst h8
    have e:An.ext 273=some rep3:=rfl
    rw [e] at h; cases h
    exact qqe ds rs hd
  have n0:Nat.beq f 80=false:=by cases b:Nat.beq f 80 with | false=>rfl | true=>exact absurd (Nat.eq_of_beq_eq_true b) h0
  have n1:Nat.beq f 30=false:=by cases b:Nat.beq f 30 with | false=>rfl | true=>exact absurd (Nat.eq_of_beq_eq_true b) h1
  have n2:Nat.beq f 31=false:=by cases b:Nat.beq f 31 with | false=>rfl | true=>exact absurd (Nat.eq_of_beq_eq_true b) h2
  have n3:Nat.beq f 91=false:=by cases b:Nat.beq f 91 with | false=>rfl | true=>exact absurd (Nat.eq_of_beq_eq_true b) h3
  have n4:Nat.beq f 96=false:=by cases b:Nat.beq f 96 with | false=>rfl | true=>exact absurd (Nat.eq_of_beq_eq_true b) h4
  have n5:Nat.beq f 94=false:=by cases b:Nat.beq f 94 with | false=>rfl | true=>exact absurd (Nat.eq_of_beq_eq_true b) h5
  have n6:Nat.beq f 46=false:=by cases b:Nat.beq f 46 with | false=>rfl | true=>exact absurd (Nat.eq_of_beq_eq_true b) h6
  have n7:Nat.beq f 265=false:=by cases b:Nat.beq f 265 with | false=>rfl | true=>exact absurd (Nat.eq_of_beq_eq_true b) h7
  have n8:Nat.beq f 273=false:=by cases b:Nat.beq f 273 with | false=>rfl | true=>exact absurd (Nat.eq_of_beq_eq_true b) h8
  have e:An.ext f=none:=by show cond (Nat.beq f 80) (some itoaGo) (cond (Nat.beq f 30) (some spacedGo) (cond (Nat.beq f 31) (some fmeshGo) (cond (Nat.beq f 91) (some fldGo) (cond (Nat.beq f 96) (some joinGo) (cond (Nat.beq f 94) (some pnumGo) (cond (Nat.beq f 46) (some splitGo) (cond (Nat.beq f 265) (some repI) (cond (Nat.beq f 273) (some rep3) (none)))))))))=none; rw [n0,n1,n2,n3,n4,n5,n6,n7,n8]; rfl
  rw [e] at h; cases h
theorem qg9 (k:Nat)(n:Int)(hn:inI64 n=true):go (k+1) strconv_Itoa [.int .i64 n]=some [.str ⟨(Lib.itoa n).toArray⟩]:=by
  have e:go (k+1) strconv_Itoa [.int .i64 n]=itoaGo [.int .i64 n]:=Eq.trans rfl rfl
  rw [e]; show (bif inI64 n then some [D.str ⟨(Lib.itoa n).toArray⟩] else none)=_; rw [hn]; rfl
theorem qek (k:Nat)(wd:ByteArray)(z:Bool)(l:List Int)(hw:wd.size≤1000)(hl:l.length≤1000)(hx:l.all inI64=true):go (k+1) impl_spaced [.str wd,.arr false z (.ints .i64 l)]=some [.str ⟨(spacedL wd.data.toList l).toArray⟩]:=by
  have e:go (k+1) impl_spaced [.str wd,.arr false z (.ints .i64 l)]=spacedGo [.str wd,.arr false z (.ints .i64 l)]:=Eq.trans rfl rfl
  rw [e]; show (bif (decide (wd.size≤1000)&&(decide (l.length≤1000)&&l.all inI64)) then some [D.str ⟨(spacedL wd.data.toList l).toArray⟩] else none)=_; rw [hx,decide_eq_true hw,decide_eq_true hl]; rfl
theorem qcj (k:Nat)(r:Int)(z:Bool)(l:List Cell)(hl:l.length≤1048576):go (k+1) impl_FormatMesh [.agg [.int .i64 r,.arr false z (.r3 l)]]=some [.str ⟨(fmeshL r l).toArray⟩]:=by
  have e:go (k+1) impl_FormatMesh [.agg [.int .i64 r,.arr false z (.r3 l)]]=fmeshGo [.agg [.int .i64 r,.arr false z (.r3 l)]]:=Eq.trans rfl rfl
  rw [e]; show (bif decide (l.length≤1048576) then some [D.str ⟨(fmeshL r l).toArray⟩] else none)=_; rw [decide_eq_true hl]; rfl
theorem qha (k:Nat)(s:ByteArray)(hs:s.size≤1000)(ha:(s.data.toList.all fun b=>decide (b.toNat<128))=true):go (k+1) strings_Fields [.str s]=some [.arr true false (.strs (wordsL s.data.toList))]:=by
  have e:go (k+1) strings_Fields [.str s]=fldGo [.str s]:=Eq.trans rfl rfl
  rw [e]; show (bif (decide (s.size≤1000)&&s.data.toList.all fun b=>decide (b.toNat<128)) then some [D.arr true false (.strs (wordsL s.data.toList))] else none)=_; rw [ha,decide_eq_true hs]; rfl
theorem qhb (k:Nat)(z:Bool)(l:List ByteArray)(sep:ByteArray)(h1:(joinL l sep).length≤100000)(h2:l.length≤100000):go (k+1) strings_Join [.arr false z (.strs l),.str sep]=some [.str ⟨(joinL l sep).toArray⟩]:=by
  have e:go (k+1) strings_Join [.arr false z (.strs l),.str sep]=joinGo [.arr false z (.strs l),.str sep]:=Eq.trans rfl rfl
  rw [e]; show (bif (decide ((joinL l sep).length≤100000)&&decide (l.length≤100000)) then some [D.str ⟨(joinL l sep).toArray⟩] else none)=_; rw [decide_eq_true h1,decide_eq_true h2]; rfl
theorem qea (k:Nat)(s:ByteArray)(hs:s.size≤1000):go (k+1) impl_parseNumber [.str s]=some [.int .i64 (atoiV s.data.toList),.bool (atoiB s.data.toList)]:=by
  have e:go (k+1) impl_parseNumber [.str s]=pnumGo [.str s]:=Eq.trans rfl rfl
  rw [e]; show (bif decide (s.size≤1000) then some [D.int .i64 (atoiV s.data.toList),.bool (atoiB s.data.toList)] else none)=_; rw [decide_eq_true hs]; rfl
theorem qhc (k:Nat)(s:ByteArray)(hs:s.size≤1000000):go (k+1) strings_Split [.str s,.str ⟨#[10]⟩]=some [.arr true false (.strs (linesL s.data.toList))]:=by
  have e:go (k+1) strings_Split [.str s,.str ⟨#[10]⟩]=splitGo [.str s,.str ⟨#[10]⟩]:=Eq.trans rfl rfl
  rw [e]; show (bif (decide (s.size≤1000000)&&decide ((⟨#[10]⟩:ByteArray).data.toList=[10])) then some [D.arr true false (.strs (linesL s.data.toList))] else none)=_; rw [decide_eq_true hs]; rfl
end Go.Proofs.YtjfjniebmdafeaaGreatDoor
end
section
namespace Go.Proofs.YtjfjniebmdafeaaGreatDoor
open Go.Ev
set_option maxRecDepth 20000
abbrev ba (l:List UInt8):ByteArray:=⟨l.toArray⟩
theorem qbh (a b:List UInt8):ba a++ba b=ba (a++b):=by
  apply ByteArray.ext
  simp [ba,ByteArray.data_append]
theorem qbk (a:List UInt8):ByteArray.size (ba a)=a.length:=List.size_toArray ..
theorem qbj (a:List UInt8):(ba a).data.toList=a:=Eq.trans rfl rfl
def decD (m:Nat):List UInt8:=if h:m=0 then [] else decD (m / 10)++[UInt8.ofNat (48+m % 10)]
termination_by m
decreasing_by omega
theorem qil: ∀ (m:Nat),m≠0→decD m=Lib.decDigits m:=by
  intro m
  induction m using Nat.strongRecOn with
  | _ m ih=>
    intro h
    rw [decD,dif_neg h,Lib.decDigits]
    by_cases g:m<10
    · rw [dif_pos g,show m / 10=0 by omega,show m % 10=m by omega,decD,dif_pos rfl,List.nil_append]
    · rw [dif_neg g,ih (m / 10) (by omega) (by omega)]
theorem qfb (k:Nat)(hk:2000000≤k)(d:Nat)(hd:d<10):go (k+1) spec_l01Figure [.int .i64 (d:Int)]=some [.int .u8 ((48+d:Nat):Int)]:=by
  rw [qmt]
  simp (disch:=omega) only [wk,bit,nI,q25,show (48:Int)+(d:Int)=((48+d:Nat):Int) by omega]
theorem q09 (d:Nat):strL [((d:Nat):Int)]=ba [UInt8.ofNat d]:=by
  unfold strL
  simp [ba]
theorem m_fi (k:Nat)(hk:2000000≤k)(fu:List (Nat×Nat))(bl:Bool): ∀ (M N m:Nat)(x:Int)(s:List UInt8),M<N→m<10 ^ M→(x=(m:Int)∨x= -(m:Int))→m≤9223372036854775808→s.length+M≤100→(x≤9223372036854775807)→
    lp (k+1) spec_FormatInt [] fu 5 (N) (qy8 x bl (ba s))=some [.str (cond bl (ba (45::(decD m++s))) (ba (decD m++s)))]
  | M,0,m,x,s,hN,hm,hx,hb,hs,hx' =>by omega
  | 0,N+1,m,x,s,hN,hm,hx,hb,hs,hx' =>by
    rw [qrn]
    have m0:m=0:=by simpa using hm
    subst m0
    have x0:x=0:=by omega
    subst x0
    rw [decD,dif_pos rfl,List.nil_append]
    have sz:=qbk s
    have s1:ByteArray.size { data:= #[(45:UInt8)] } =1:=Eq.trans rfl rfl
    have ap:({ data:= #[(45:UInt8)] } :ByteArray)++ba s=ba (45::s):=qbh [45] s
    cases bl
    · simp (disch:=omega) only [wk,bit,nI]
    · simp (disch:=omega) only [wk,bit,nI,sz,s1,ap]
  | M+1,N+1,m,x,s,hN,hm,hx,hb,hs,hx' =>by
    rw [qrn]
    have sz:=qbk s
    have s1:ByteArray.size { data:= #[(45:UInt8)] } =1:=Eq.trans rfl rfl
    have ap:({ data:= #[(45:UInt8)] } :ByteArray)++ba s=ba (45::s):=qbh [45] s
    by_cases g:m=0
    · subst g
      have x0:x=0:=by omega
      subst x0
      rw [decD,dif_pos rfl,List.nil_append]
      cases bl
      · simp (disch:=omega) only [wk,bit,nI]
      · simp (disch:=omega) only [wk,bit,nI,sz,s1,ap]
    have hne:¬ x=0:=by omega
    have m10:m / 10<10 ^ M:=by rw [Nat.pow_succ] at hm; omega
    have fig:=qfb k (by omega) (m % 10) (by omega)
    have st:=q09 (48+m % 10)
    have sb:ByteArray.size (ba [UInt8.ofNat (48+m % 10)])=1:=Eq.trans rfl rfl
    have ap2:ba [UInt8.ofNat (48+m % 10)]++ba s=ba (UInt8.ofNat (48+m % 10)::s):=qbh _ _
    have ed:decD m++s=decD (m / 10)++UInt8.ofNat (48+m % 10)::s:=by
      rw [decD,dif_neg g,List.append_assoc]; rfl
    rw [ed]
    rcases hx with hx | hx
    · have IH:=m_fi k hk fu bl M N (m / 10) ((m / 10:Nat):Int) (UInt8.ofNat (48+m % 10)::s) (by omega) m10 (Or.inl rfl) (by omega) (by simp only [List.length_cons]; omega) (by omega)
      have t1:Int.tmod x 10=((m % 10:Nat):Int):=by rw [hx,Int.tmod_eq_emod_of_nonneg (by omega)]; omega
      have t2:Int.tdiv x 10=((m / 10:Nat):Int):=by rw [hx,Int.tdiv_eq_ediv_of_nonneg (by omega)]; omega
      simp (disch:=omega) only [wk,bit,nI,t1,t2,fig,st,sb,sz,ap2,IH]
    · have IH:=m_fi k hk fu bl M N (m / 10) (-((m / 10:Nat):Int)) (UInt8.ofNat (48+m % 10)::s) (by omega) m10 (Or.inr rfl) (by omega) (by simp only [List.length_cons]; omega) (by omega)
      have t1:Int.tmod x 10= -((m % 10:Nat):Int):=by rw [hx,Int.neg_tmod,Int.tmod_eq_emod_of_nonneg (by omega)]; omega
      have t2:Int.tdiv x 10= -((m / 10:Nat):Int):=by rw [hx,Int.neg_tdiv,Int.tdiv_eq_ediv_of_nonneg (by omega)]; omega
      by_cases h0:m % 10=0
      · rw [h0] at t1 fig st sb ap2 ⊢
        rw [h0] at IH
        rw [show ((0:Nat):Int)=0 from rfl] at t1 fig
        rw [Int.neg_zero] at t1
        simp (disch:=omega) only [wk,bit,nI,t1,t2,fig,st,sb,sz,ap2,IH]
      · simp (disch:=omega) only [wk,bit,nI,t1,t2,fig,st,sb,sz,ap2,IH,show (0:Int) - -((m % 10:Nat):Int)=((m % 10:Nat):Int) by omega]
theorem qfd (k:Nat)(hk:2000000≤k)(n:Int)(hn:inI64 n=true):go (k+2) spec_FormatInt [.int .i64 n]=some [.str (ba (Lib.itoa n))]:=by
  have hn' :=hn
  unfold inI64 at hn'
  simp only [Bool.and_eq_true,decide_eq_true_eq] at hn'
  rw [ql4]
  by_cases g:n=0
  · subst g
    have:Lib.itoa 0=[48]:=by
      unfold Lib.itoa; rw [if_neg (by omega)]; exact Lib.decDigits_one (by decide)
    rw [this]
    simp (disch:=omega) only [wk,bit,nI]
  have e:=m_fi k hk [] (decide (n<0)) 19 (k+1) n.natAbs n [] (by omega) (by omega) (by omega) (by omega) (by simp) hn'.2
  rw [List.append_nil,qil _ (by omega)] at e
  have i:Lib.itoa n=cond (decide (n<0)) (45::Lib.decDigits n.natAbs) (Lib.decDigits n.natAbs):=by
    unfold Lib.itoa
    by_cases h:n<0
    · rw [if_pos h,decide_eq_true h]; rfl
    · rw [if_neg h,decide_eq_false h,show n.toNat=n.natAbs by omega]; rfl
  have e' :ba (Lib.itoa n)=cond (decide (n<0)) (ba (45::Lib.decDigits n.natAbs)) (ba (Lib.decDigits n.natAbs)):=by
    rw [i]; cases decide (n<0)<;>rfl
  rw [e']
  simp (disch:=omega) only [wk,bit,nI]
  exact e
theorem qci (k:Nat)(hk:2000000≤k)(n:Int)(hn:inI64 n=true):go (k+2) impl_FormatInt [.int .i64 n]=some [.str (ba (Lib.itoa n))]:=by
  rw [qjb]
  have e:=qg9 k n hn
  simp (disch:=omega) only [wk,bit,nI,e]
end Go.Proofs.YtjfjniebmdafeaaGreatDoor
end
section
namespace Go.Proofs.YtjfjniebmdafeaaGreatDoor
open Go.Ev
theorem qlt (k:Nat)(a0 a1 a2 a3:Int):go (k+1) spec_ActOk [.agg [.int .i64 a0,.int .i64 a1,.int .i64 a2,.int .i64 a3]]=
 (go k spec_l37Plain [.agg [.int .i64 a0,.int .i64 a1,.int .i64 a2,.int .i64 a3]]).bind fun r0=>
 cond (!(decide (a0=D.toInt (D.cell 0 (nth r0 0)))&&(decide (a1=D.toInt (D.cell 1 (nth r0 0)))&&(decide (a2=D.toInt (D.cell 2 (nth r0 0)))&&(decide (a3=D.toInt (D.cell 3 (nth r0 0)))&&true)))))
 (some [.bool false])
 (cond (decide (a0=1))
 ((go k spec_l01In [.int .i64 a1,.int .i64 1,.int .i64 20]).bind fun r1=>
 some [.bool (bit (nth r1 0))])
 (cond (decide (a0=2))
 (cond (decide (a0=2))
 ((go k spec_l01In [.int .i64 a1,.int .i64 0,.int .i64 10000]).bind fun r2=>
 some [.bool (bit (nth r2 0))])
 (cond (decide (a0=4))
 ((go k spec_BorderOk [.agg [.int .i64 a1,.int .i64 a2,.int .i64 a3]]).bind fun r3=>
 some [.bool (bit (nth r3 0))])
 (cond (decide (a0=5))
 ((go k spec_l01In [.int .i64 a1,.int .i64 0,.int .i64 1000]).bind fun r4=>
 some [.bool (bit (nth r4 0))])
 (cond (decide (a0=6))
 ((go k spec_l01In [.int .i64 a1,.int .i64 0,.int .i64 1000000]).bind fun r5=>
 cond (bit (nth r5 0))
 ((go k spec_l01In [.int .i64 a2,.int .i64 0,.int .i64 1000000]).bind fun r6=>
 cond (bit (nth r6 0))
 ((go k spec_l01In [.int .i64 a3,.int .i64 0,.int .i64 100]).bind fun r7=>
 some [.bool (bit (nth r7 0))])
 (some [.bool false]))
 (some [.bool false]))
 (cond (decide (a0=7))
 ((go k spec_l01In [.int .i64 a1,.int .i64 0,.int .i64 127]).bind fun r8=>
 cond (bit (nth r8 0))
 ((go k spec_l01In [.int .i64 a2,.int .i64 1,.int .i64 10000]).bind fun r9=>
 cond (bit (nth r9 0))
 ((go k spec_l01In [.int .i64 a3,.int .i64 0,.int .i64 1000]).bind fun r10=>
 some [.bool (bit (nth r10 0))])
 (some [.bool false]))
 (some [.bool false]))
 (some [.bool false]))))))
 (cond (decide (a0=3))
 ((go k spec_l01In [.int .i64 a1,.int .i64 0,.int .i64 10000]).bind fun r11=>
 some [.bool (bit (nth r11 0))])
 (cond (decide (a0=4))
 ((go k spec_BorderOk [.agg [.int .i64 a1,.int .i64 a2,.int .i64 a3]]).bind fun r12=>
 some [.bool (bit (nth r12 0))])
 (cond (decide (a0=5))
 ((go k spec_l01In [.int .i64 a1,.int .i64 0,.int .i64 1000]).bind fun r13=>
 some [.bool (bit (nth r13 0))])
 (cond (decide (a0=6))
 ((go k spec_l01In [.int .i64 a1,.int .i64 0,.int .i64 1000000]).bind fun r14=>
 cond (bit (nth r14 0))
 ((go k spec_l01In [.int .i64 a2,.int .i64 0,.int .i64 1000000]).bind fun r15=>
 cond (bit (nth r15 0))
 ((go k spec_l01In [.int .i64 a3,.int .i64 0,.int .i64 100]).bind fun r16=>
 some [.bool (bit (nth r16 0))])
 (some [.bool false]))
 (some [.bool false]))
 (cond (decide (a0=7))
 ((go k spec_l01In [.int .i64 a1,.int .i64 0,.int .i64 127]).bind fun r17=>
 cond (bit (nth r17 0))
 ((go k spec_l01In [.int .i64 a2,.int .i64 1,.int .i64 10000]).bind fun r18=>
 cond (bit (nth r18 0))
 ((go k spec_l01In [.int .i64 a3,.int .i64 0,.int .i64 1000]).bind fun r19=>
 some [.bool (bit (nth r19 0))])
 (some [.bool false]))
 (some [.bool false]))
 (some [.bool false])))))))):=by kernel_rfl
theorem qi2 (k:Nat)(a0 a1 a2 a3:Int):go (k+1) impl_ActOk [.agg [.int .i64 a0,.int .i64 a1,.int .i64 a2,.int .i64 a3]]=
 cond (decide (a2=0))
 (cond (decide (a0=1))
 (cond (decide (a3=0))
 ((go k impl_within [.int .i64 a1,.int .i64 1,.int .i64 20]).bind fun r0=>
 some [.bool (bit (nth r0 0))])
 (some [.bool false]))
 (cond (decide (a0=2))
 (cond (decide (a0=2))
 (cond (decide (a3=0))
 ((go k impl_isRain [.int .i64 a1]).bind fun r1=>
 some [.bool (bit (nth r1 0))])
 (some [.bool false]))
 (cond (decide (a0=4))
 ((go k impl_BorderOk [.agg [.int .i64 a1,.int .i64 a2,.int .i64 a3]]).bind fun r2=>
 some [.bool (bit (nth r2 0))])
 (cond (decide (a0=5))
 (cond (decide (a3=0))
 ((go k impl_isRate [.int .i64 a1]).bind fun r3=>
 some [.bool (bit (nth r3 0))])
 (some [.bool false]))
 (cond (decide (a0=6))
 ((go k impl_within [.int .i64 a1,.int .i64 0,.int .i64 1000000]).bind fun r4=>
 cond (bit (nth r4 0))
 ((go k impl_within [.int .i64 a2,.int .i64 0,.int .i64 1000000]).bind fun r5=>
 cond (bit (nth r5 0))
 ((go k impl_within [.int .i64 a3,.int .i64 0,.int .i64 100]).bind fun r6=>
 some [.bool (bit (nth r6 0))])
 (some [.bool false]))
 (some [.bool false]))
 (cond (decide (a0=7))
 ((go k impl_within [.int .i64 a1,.int .i64 0,.int .i64 127]).bind fun r7=>
 cond (bit (nth r7 0))
 ((go k impl_within [.int .i64 a2,.int .i64 1,.int .i64 10000]).bind fun r8=>
 cond (bit (nth r8 0))
 ((go k impl_within [.int .i64 a3,.int .i64 0,.int .i64 1000]).bind fun r9=>
 some [.bool (bit (nth r9 0))])
 (some [.bool false]))
 (some [.bool false]))
 (some [.bool false]))))))
 (cond (decide (a0=3))
 (cond (decide (a3=0))
 ((go k impl_isRain [.int .i64 a1]).bind fun r10=>
 some [.bool (bit (nth r10 0))])
 (some [.bool false]))
 (cond (decide (a0=4))
 ((go k impl_BorderOk [.agg [.int .i64 a1,.int .i64 a2,.int .i64 a3]]).bind fun r11=>
 some [.bool (bit (nth r11 0))])
 (cond (decide (a0=5))
 (cond (decide (a3=0))
 ((go k impl_isRate [.int .i64 a1]).bind fun r12=>
 some [.bool (bit (nth r12 0))])
 (some [.bool false]))
 (cond (decide (a0=6))
 ((go k impl_within [.int .i64 a1,.int .i64 0,.int .i64 1000000]).bind fun r13=>
 cond (bit (nth r13 0))
 ((go k impl_within [.int .i64 a2,.int .i64 0,.int .i64 1000000]).bind fun r14=>
 cond (bit (nth r14 0))
 ((go k impl_within [.int .i64 a3,.int .i64 0,.int .i64 100]).bind fun r15=>
 some [.bool (bit (nth r15 0))])
 (some [.bool false]))
 (some [.bool false]))
 (cond (decide (a0=7))
 ((go k impl_within [.int .i64 a1,.int .i64 0,.int .i64 127]).bind fun r16=>
 cond (bit (nth r16 0))
 ((go k impl_within [.int .i64 a2,.int .i64 1,.int .i64 10000]).bind fun r17=>
 cond (bit (nth r17 0))
 ((go k impl_within [.int .i64 a3,.int .i64 0,.int .i64 1000]).bind fun r18=>
 some [.bool (bit (nth r18 0))])
 (some [.bool false]))
 (some [.bool false]))
 (some [.bool false]))))))))
 (cond (decide (a0=1))
 (some [.bool false])
 (cond (decide (a0=2))
 (cond (decide (a0=2))
 (some [.bool false])
 (cond (decide (a0=4))
 ((go k impl_BorderOk [.agg [.int .i64 a1,.int .i64 a2,.int .i64 a3]]).bind fun r19=>
 some [.bool (bit (nth r19 0))])
 (cond (decide (a0=5))
 (some [.bool false])
 (cond (decide (a0=6))
 ((go k impl_within [.int .i64 a1,.int .i64 0,.int .i64 1000000]).bind fun r20=>
 cond (bit (nth r20 0))
 ((go k impl_within [.int .i64 a2,.int .i64 0,.int .i64 1000000]).bind fun r21=>
 cond (bit (nth r21 0))
 ((go k impl_within [.int .i64 a3,.int .i64 0,.int .i64 100]).bind fun r22=>
 some [.bool (bit (nth r22 0))])
 (some [.bool false]))
 (some [.bool false]))
 (cond (decide (a0=7))
 ((go k impl_within [.int .i64 a1,.int .i64 0,.int .i64 127]).bind fun r23=>
 cond (bit (nth r23 0))
 ((go k impl_within [.int .i64 a2,.int .i64 1,.int .i64 10000]).bind fun r24=>
 cond (bit (nth r24 0))
 ((go k impl_within [.int .i64 a3,.int .i64 0,.int .i64 1000]).bind fun r25=>
 some [.bool (bit (nth r25 0))])
 (some [.bool false]))
 (some [.bool false]))
 (some [.bool false]))))))
 (cond (decide (a0=3))
 (some [.bool false])
 (cond (decide (a0=4))
 ((go k impl_BorderOk [.agg [.int .i64 a1,.int .i64 a2,.int .i64 a3]]).bind fun r26=>
 some [.bool (bit (nth r26 0))])
 (cond (decide (a0=5))
 (some [.bool false])
 (cond (decide (a0=6))
 ((go k impl_within [.int .i64 a1,.int .i64 0,.int .i64 1000000]).bind fun r27=>
 cond (bit (nth r27 0))
 ((go k impl_within [.int .i64 a2,.int .i64 0,.int .i64 1000000]).bind fun r28=>
 cond (bit (nth r28 0))
 ((go k impl_within [.int .i64 a3,.int .i64 0,.int .i64 100]).bind fun r29=>
 some [.bool (bit (nth r29 0))])
 (some [.bool false]))
 (some [.bool false]))
 (cond (decide (a0=7))
 ((go k impl_within [.int .i64 a1,.int .i64 0,.int .i64 127]).bind fun r30=>
 cond (bit (nth r30 0))
 ((go k impl_within [.int .i64 a2,.int .i64 1,.int .i64 10000]).bind fun r31=>
 cond (bit (nth r31 0))
 ((go k impl_within [.int .i64 a3,.int .i64 0,.int .i64 1000]).bind fun r32=>
 some [.bool (bit (nth r32 0))])
 (some [.bool false]))
 (some [.bool false]))
 (some [.bool false])))))))):=by kernel_rfl
theorem qnx (k:Nat)(a0 a1 a2 a3:Int):go (k+1) spec_l37Plain [.agg [.int .i64 a0,.int .i64 a1,.int .i64 a2,.int .i64 a3]]=
 cond (decide (a0=4))
 (some [.agg [.int .i64 a0,.int .i64 a1,.int .i64 a2,.int .i64 a3]])
 (cond (decide (a0=6))
 (some [.agg [.int .i64 a0,.int .i64 a1,.int .i64 a2,.int .i64 a3]])
 (cond (decide (a0=7))
 (some [.agg [.int .i64 a0,.int .i64 a1,.int .i64 a2,.int .i64 a3]])
 (some [.agg [.int .i64 a0,.int .i64 a1,.int .i64 0,.int .i64 0]]))):=by kernel_rfl
theorem qky (k:Nat)(a0:Int)(a1z:Bool)(a1:L3)(a2z:Bool)(a2:LI)(a3z:Bool)(a3:LI)(a4z:Bool)(a4:LI)(a5 a6 a7 a8 a9 a10 a11 a12 a13 a14 a15 a16 a17 a18 a19 a20 b0 b1 b2 b3:Int):go (k+1) impl_World_do [.ptr true [.int .i64 a0,.arr true a1z (.r3 a1),.arr true a2z (.ints .i64 a2),.arr true a3z (.ints .i64 a3),.arr true a4z (.ints .i64 a4),.int .i64 a5,.int .i64 a6,.int .i64 a7,.int .i64 a8,.int .i64 a9,.int .i64 a10,.int .i64 a11,.int .i64 a12,.int .i64 a13,.int .i64 a14,.int .i64 a15,.int .i64 a16,.int .i64 a17,.int .i64 a18,.int .i64 a19,.int .i64 a20],.agg [.int .i64 b0,.int .i64 b1,.int .i64 b2,.int .i64 b3]]=
 cond (decide (b0=1))
 ((go k impl_Advance [wV false a0 a1z a1 a2z a2 a3z a3 a4z a4 a5 a6 a7 a8 a9 a10 a11 a12 a13 a14 a15 a16 a17 a18 a19 a20,.int .i64 b1]).bind fun r0=>
 (go k impl_TotalMass [sC false (nth r0 0)]).bind fun r1=>
 some [.int .i64 (D.toInt (nth r1 0)),.ptr true [.int .i64 (D.toInt (D.cell 0 (nth r0 0))),.arr true (D.nil (D.cell 1 (nth r0 0))) (.r3 (D.r3 (D.cell 1 (nth r0 0)))),.arr true (D.nil (D.cell 2 (nth r0 0))) (.ints .i64 (D.ints (D.cell 2 (nth r0 0)))),.arr true (D.nil (D.cell 3 (nth r0 0))) (.ints .i64 (D.ints (D.cell 3 (nth r0 0)))),.arr true (D.nil (D.cell 4 (nth r0 0))) (.ints .i64 (D.ints (D.cell 4 (nth r0 0)))),.int .i64 (D.toInt (D.cell 5 (nth r0 0))),.int .i64 (D.toInt (D.cell 6 (nth r0 0))),.int .i64 (D.toInt (D.cell 7 (nth r0 0))),.int .i64 (D.toInt (D.cell 8 (nth r0 0))),.int .i64 (D.toInt (D.cell 9 (nth r0 0))),.int .i64 (D.toInt (D.cell 10 (nth r0 0))),.int .i64 (D.toInt (D.cell 11 (nth r0 0))),.int .i64 (D.toInt (D.cell 12 (nth r0 0))),.int .i64 (D.toInt (D.cell 13 (nth r0 0))),.int .i64 (D.toInt (D.cell 14 (nth r0 0))),.int .i64 (D.toInt (D.cell 15 (nth r0 0))),.int .i64 (D.toInt (D.cell 16 (nth r0 0))),.int .i64 (D.toInt (D.cell 17 (nth r0 0))),.int .i64 (D.toInt (D.cell 18 (nth r0 0))),.int .i64 (D.toInt (D.cell 19 (nth r0 0))),.int .i64 (D.toInt (D.cell 20 (nth r0 0)))]])
 (cond (decide (b0=2))
 (some [.int .i64 1,.ptr true [.int .i64 a0,.arr true a1z (.r3 a1),.arr true a2z (.ints .i64 a2),.arr true a3z (.ints .i64 a3),.arr true a4z (.ints .i64 a4),.int .i64 a5,.int .i64 a6,.int .i64 a7,.int .i64 b1,.int .i64 a9,.int .i64 a10,.int .i64 a11,.int .i64 a12,.int .i64 a13,.int .i64 a14,.int .i64 a15,.int .i64 a16,.int .i64 a17,.int .i64 a18,.int .i64 a19,.int .i64 a20]])
 (cond (decide (b0=3))
 (some [.int .i64 1,.ptr true [.int .i64 a0,.arr true a1z (.r3 a1),.arr true a2z (.ints .i64 a2),.arr true a3z (.ints .i64 a3),.arr true a4z (.ints .i64 a4),.int .i64 a5,.int .i64 a6,.int .i64 a7,.int .i64 a8,.int .i64 b1,.int .i64 a10,.int .i64 a11,.int .i64 a12,.int .i64 a13,.int .i64 a14,.int .i64 a15,.int .i64 a16,.int .i64 a17,.int .i64 a18,.int .i64 a19,.int .i64 a20]])
 (cond (decide (b0=4))
 (some [.int .i64 1,.ptr true [.int .i64 a0,.arr true a1z (.r3 a1),.arr true a2z (.ints .i64 a2),.arr true a3z (.ints .i64 a3),.arr true a4z (.ints .i64 a4),.int .i64 b1,.int .i64 b2,.int .i64 b3,.int .i64 a8,.int .i64 a9,.int .i64 a10,.int .i64 a11,.int .i64 a12,.int .i64 a13,.int .i64 a14,.int .i64 a15,.int .i64 a16,.int .i64 a17,.int .i64 a18,.int .i64 a19,.int .i64 a20]])
 (cond (decide (b0=5))
 (some [.int .i64 1,.ptr true [.int .i64 a0,.arr true a1z (.r3 a1),.arr true a2z (.ints .i64 a2),.arr true a3z (.ints .i64 a3),.arr true a4z (.ints .i64 a4),.int .i64 a5,.int .i64 a6,.int .i64 a7,.int .i64 a8,.int .i64 a9,.int .i64 b1,.int .i64 a11,.int .i64 a12,.int .i64 a13,.int .i64 a14,.int .i64 a15,.int .i64 a16,.int .i64 a17,.int .i64 a18,.int .i64 a19,.int .i64 a20]])
 (cond (decide (b0=6))
 (some [.int .i64 (nI (List.length a1)),.ptr true [.int .i64 a0,.arr true a1z (.r3 a1),.arr true a2z (.ints .i64 a2),.arr true a3z (.ints .i64 a3),.arr true a4z (.ints .i64 a4),.int .i64 a5,.int .i64 a6,.int .i64 a7,.int .i64 a8,.int .i64 a9,.int .i64 a10,.int .i64 b1,.int .i64 b2,.int .i64 b3,.int .i64 a14,.int .i64 a15,.int .i64 a16,.int .i64 a17,.int .i64 a18,.int .i64 a19,.int .i64 a20]])
 (cond (decide (b0=7))
 ((go k impl_Drop [wV false a0 a1z a1 a2z a2 a3z a3 a4z a4 a5 a6 a7 a8 a9 a10 a11 a12 a13 a14 a15 a16 a17 a18 a19 a20,.int .i64 b1,.int .i64 b2,.int .i64 b3]).bind fun r2=>
 cond (!bit (nth r2 1))
 (some [.int .i64 0,.ptr true [.int .i64 (D.toInt (D.cell 0 (nth r2 0))),.arr true (D.nil (D.cell 1 (nth r2 0))) (.r3 (D.r3 (D.cell 1 (nth r2 0)))),.arr true (D.nil (D.cell 2 (nth r2 0))) (.ints .i64 (D.ints (D.cell 2 (nth r2 0)))),.arr true (D.nil (D.cell 3 (nth r2 0))) (.ints .i64 (D.ints (D.cell 3 (nth r2 0)))),.arr true (D.nil (D.cell 4 (nth r2 0))) (.ints .i64 (D.ints (D.cell 4 (nth r2 0)))),.int .i64 (D.toInt (D.cell 5 (nth r2 0))),.int .i64 (D.toInt (D.cell 6 (nth r2 0))),.int .i64 (D.toInt (D.cell 7 (nth r2 0))),.int .i64 (D.toInt (D.cell 8 (nth r2 0))),.int .i64 (D.toInt (D.cell 9 (nth r2 0))),.int .i64 (D.toInt (D.cell 10 (nth r2 0))),.int .i64 (D.toInt (D.cell 11 (nth r2 0))),.int .i64 (D.toInt (D.cell 12 (nth r2 0))),.int .i64 (D.toInt (D.cell 13 (nth r2 0))),.int .i64 (D.toInt (D.cell 14 (nth r2 0))),.int .i64 (D.toInt (D.cell 15 (nth r2 0))),.int .i64 (D.toInt (D.cell 16 (nth r2 0))),.int .i64 (D.toInt (D.cell 17 (nth r2 0))),.int .i64 (D.toInt (D.cell 18 (nth r2 0))),.int .i64 (D.toInt (D.cell 19 (nth r2 0))),.int .i64 (D.toInt (D.cell 20 (nth r2 0)))]])
 (some [.int .i64 1,.ptr true [.int .i64 (D.toInt (D.cell 0 (nth r2 0))),.arr true (D.nil (D.cell 1 (nth r2 0))) (.r3 (D.r3 (D.cell 1 (nth r2 0)))),.arr true (D.nil (D.cell 2 (nth r2 0))) (.ints .i64 (D.ints (D.cell 2 (nth r2 0)))),.arr true (D.nil (D.cell 3 (nth r2 0))) (.ints .i64 (D.ints (D.cell 3 (nth r2 0)))),.arr true (D.nil (D.cell 4 (nth r2 0))) (.ints .i64 (D.ints (D.cell 4 (nth r2 0)))),.int .i64 (D.toInt (D.cell 5 (nth r2 0))),.int .i64 (D.toInt (D.cell 6 (nth r2 0))),.int .i64 (D.toInt (D.cell 7 (nth r2 0))),.int .i64 (D.toInt (D.cell 8 (nth r2 0))),.int .i64 (D.toInt (D.cell 9 (nth r2 0))),.int .i64 (D.toInt (D.cell 10 (nth r2 0))),.int .i64 (D.toInt (D.cell 11 (nth r2 0))),.int .i64 (D.toInt (D.cell 12 (nth r2 0))),.int .i64 (D.toInt (D.cell 13 (nth r2 0))),.int .i64 (D.toInt (D.cell 14 (nth r2 0))),.int .i64 (D.toInt (D.cell 15 (nth r2 0))),.int .i64 (D.toInt (D.cell 16 (nth r2 0))),.int .i64 (D.toInt (D.cell 17 (nth r2 0))),.int .i64 (D.toInt (D.cell 18 (nth r2 0))),.int .i64 (D.toInt (D.cell 19 (nth r2 0))),.int .i64 (D.toInt (D.cell 20 (nth r2 0)))]]))
 (some [.int .i64 1,.ptr true [.int .i64 a0,.arr true a1z (.r3 a1),.arr true a2z (.ints .i64 a2),.arr true a3z (.ints .i64 a3),.arr true a4z (.ints .i64 a4),.int .i64 a5,.int .i64 a6,.int .i64 a7,.int .i64 a8,.int .i64 a9,.int .i64 a10,.int .i64 a11,.int .i64 a12,.int .i64 a13,.int .i64 a14,.int .i64 a15,.int .i64 a16,.int .i64 a17,.int .i64 a18,.int .i64 a19,.int .i64 a20]]))))))):=by kernel_rfl
theorem ql0 (k:Nat)(a0:Int)(a1z:Bool)(a1:L3)(a2z:Bool)(a2:LI)(a3z:Bool)(a3:LI)(a4z:Bool)(a4:LI)(a5 a6 a7 a8 a9 a10 a11 a12 a13 a14 a15 a16 a17 a18 a19 a20 b0 b1 b2 b3:Int):go (k+1) spec_DoAct [wV false a0 a1z a1 a2z a2 a3z a3 a4z a4 a5 a6 a7 a8 a9 a10 a11 a12 a13 a14 a15 a16 a17 a18 a19 a20,.agg [.int .i64 b0,.int .i64 b1,.int .i64 b2,.int .i64 b3]]=
 (go k spec_l36Copy [wV false a0 a1z a1 a2z a2 a3z a3 a4z a4 a5 a6 a7 a8 a9 a10 a11 a12 a13 a14 a15 a16 a17 a18 a19 a20]).bind fun r0=>
 (go k spec_WorldOk [wV false a0 a1z a1 a2z a2 a3z a3 a4z a4 a5 a6 a7 a8 a9 a10 a11 a12 a13 a14 a15 a16 a17 a18 a19 a20]).bind fun r1=>
 cond (!bit (nth r1 0))
 (some [wC true (nth r0 0),.int .i64 ((-1:Int))])
 ((go k spec_ActOk [.agg [.int .i64 b0,.int .i64 b1,.int .i64 b2,.int .i64 b3]]).bind fun r2=>
 cond (!bit (nth r2 0))
 (some [wC true (nth r0 0),.int .i64 ((-1:Int))])
 (cond (decide (b0=1))
 ((go k spec_Advance [wV false a0 a1z a1 a2z a2 a3z a3 a4z a4 a5 a6 a7 a8 a9 a10 a11 a12 a13 a14 a15 a16 a17 a18 a19 a20,.int .i64 b1]).bind fun r3=>
 (go k spec_l07Sum [.arr false (D.nil (D.cell 2 (nth r3 0))) (.ints .i64 (D.ints (D.cell 2 (nth r3 0))))]).bind fun r4=>
 some [wC true (nth r3 0),.int .i64 (D.toInt (nth r4 0))])
 (cond (decide (b0=2))
 (some [.agg [.int .i64 (D.toInt (D.cell 0 (nth r0 0))),.arr true (D.nil (D.cell 1 (nth r0 0))) (.r3 (D.r3 (D.cell 1 (nth r0 0)))),.arr true (D.nil (D.cell 2 (nth r0 0))) (.ints .i64 (D.ints (D.cell 2 (nth r0 0)))),.arr true (D.nil (D.cell 3 (nth r0 0))) (.ints .i64 (D.ints (D.cell 3 (nth r0 0)))),.arr true (D.nil (D.cell 4 (nth r0 0))) (.ints .i64 (D.ints (D.cell 4 (nth r0 0)))),.int .i64 (D.toInt (D.cell 5 (nth r0 0))),.int .i64 (D.toInt (D.cell 6 (nth r0 0))),.int .i64 (D.toInt (D.cell 7 (nth r0 0))),.int .i64 b1,.int .i64 (D.toInt (D.cell 9 (nth r0 0))),.int .i64 (D.toInt (D.cell 10 (nth r0 0))),.int .i64 (D.toInt (D.cell 11 (nth r0 0))),.int .i64 (D.toInt (D.cell 12 (nth r0 0))),.int .i64 (D.toInt (D.cell 13 (nth r0 0))),.int .i64 (D.toInt (D.cell 14 (nth r0 0))),.int .i64 (D.toInt (D.cell 15 (nth r0 0))),.int .i64 (D.toInt (D.cell 16 (nth r0 0))),.int .i64 (D.toInt (D.cell 17 (nth r0 0))),.int .i64 (D.toInt (D.cell 18 (nth r0 0))),.int .i64 (D.toInt (D.cell 19 (nth r0 0))),.int .i64 (D.toInt (D.cell 20 (nth r0 0)))],.int .i64 1])
 (cond (decide (b0=3))
 (some [.agg [.int .i64 (D.toInt (D.cell 0 (nth r0 0))),.arr true (D.nil (D.cell 1 (nth r0 0))) (.r3 (D.r3 (D.cell 1 (nth r0 0)))),.arr true (D.nil (D.cell 2 (nth r0 0))) (.ints .i64 (D.ints (D.cell 2 (nth r0 0)))),.arr true (D.nil (D.cell 3 (nth r0 0))) (.ints .i64 (D.ints (D.cell 3 (nth r0 0)))),.arr true (D.nil (D.cell 4 (nth r0 0))) (.ints .i64 (D.ints (D.cell 4 (nth r0 0)))),.int .i64 (D.toInt (D.cell 5 (nth r0 0))),.int .i64 (D.toInt (D.cell 6 (nth r0 0))),.int .i64 (D.toInt (D.cell 7 (nth r0 0))),.int .i64 (D.toInt (D.cell 8 (nth r0 0))),.int .i64 b1,.int .i64 (D.toInt (D.cell 10 (nth r0 0))),.int .i64 (D.toInt (D.cell 11 (nth r0 0))),.int .i64 (D.toInt (D.cell 12 (nth r0 0))),.int .i64 (D.toInt (D.cell 13 (nth r0 0))),.int .i64 (D.toInt (D.cell 14 (nth r0 0))),.int .i64 (D.toInt (D.cell 15 (nth r0 0))),.int .i64 (D.toInt (D.cell 16 (nth r0 0))),.int .i64 (D.toInt (D.cell 17 (nth r0 0))),.int .i64 (D.toInt (D.cell 18 (nth r0 0))),.int .i64 (D.toInt (D.cell 19 (nth r0 0))),.int .i64 (D.toInt (D.cell 20 (nth r0 0)))],.int .i64 1])
 (cond (decide (b0=5))
 (some [.agg [.int .i64 (D.toInt (D.cell 0 (nth r0 0))),.arr true (D.nil (D.cell 1 (nth r0 0))) (.r3 (D.r3 (D.cell 1 (nth r0 0)))),.arr true (D.nil (D.cell 2 (nth r0 0))) (.ints .i64 (D.ints (D.cell 2 (nth r0 0)))),.arr true (D.nil (D.cell 3 (nth r0 0))) (.ints .i64 (D.ints (D.cell 3 (nth r0 0)))),.arr true (D.nil (D.cell 4 (nth r0 0))) (.ints .i64 (D.ints (D.cell 4 (nth r0 0)))),.int .i64 (D.toInt (D.cell 5 (nth r0 0))),.int .i64 (D.toInt (D.cell 6 (nth r0 0))),.int .i64 (D.toInt (D.cell 7 (nth r0 0))),.int .i64 (D.toInt (D.cell 8 (nth r0 0))),.int .i64 (D.toInt (D.cell 9 (nth r0 0))),.int .i64 b1,.int .i64 (D.toInt (D.cell 11 (nth r0 0))),.int .i64 (D.toInt (D.cell 12 (nth r0 0))),.int .i64 (D.toInt (D.cell 13 (nth r0 0))),.int .i64 (D.toInt (D.cell 14 (nth r0 0))),.int .i64 (D.toInt (D.cell 15 (nth r0 0))),.int .i64 (D.toInt (D.cell 16 (nth r0 0))),.int .i64 (D.toInt (D.cell 17 (nth r0 0))),.int .i64 (D.toInt (D.cell 18 (nth r0 0))),.int .i64 (D.toInt (D.cell 19 (nth r0 0))),.int .i64 (D.toInt (D.cell 20 (nth r0 0)))],.int .i64 1])
 (cond (decide (b0=4))
 (some [.agg [.int .i64 (D.toInt (D.cell 0 (nth r0 0))),.arr true (D.nil (D.cell 1 (nth r0 0))) (.r3 (D.r3 (D.cell 1 (nth r0 0)))),.arr true (D.nil (D.cell 2 (nth r0 0))) (.ints .i64 (D.ints (D.cell 2 (nth r0 0)))),.arr true (D.nil (D.cell 3 (nth r0 0))) (.ints .i64 (D.ints (D.cell 3 (nth r0 0)))),.arr true (D.nil (D.cell 4 (nth r0 0))) (.ints .i64 (D.ints (D.cell 4 (nth r0 0)))),.int .i64 b1,.int .i64 b2,.int .i64 b3,.int .i64 (D.toInt (D.cell 8 (nth r0 0))),.int .i64 (D.toInt (D.cell 9 (nth r0 0))),.int .i64 (D.toInt (D.cell 10 (nth r0 0))),.int .i64 (D.toInt (D.cell 11 (nth r0 0))),.int .i64 (D.toInt (D.cell 12 (nth r0 0))),.int .i64 (D.toInt (D.cell 13 (nth r0 0))),.int .i64 (D.toInt (D.cell 14 (nth r0 0))),.int .i64 (D.toInt (D.cell 15 (nth r0 0))),.int .i64 (D.toInt (D.cell 16 (nth r0 0))),.int .i64 (D.toInt (D.cell 17 (nth r0 0))),.int .i64 (D.toInt (D.cell 18 (nth r0 0))),.int .i64 (D.toInt (D.cell 19 (nth r0 0))),.int .i64 (D.toInt (D.cell 20 (nth r0 0)))],.int .i64 1])
 (cond (decide (b0=6))
 (some [.agg [.int .i64 (D.toInt (D.cell 0 (nth r0 0))),.arr true (D.nil (D.cell 1 (nth r0 0))) (.r3 (D.r3 (D.cell 1 (nth r0 0)))),.arr true (D.nil (D.cell 2 (nth r0 0))) (.ints .i64 (D.ints (D.cell 2 (nth r0 0)))),.arr true (D.nil (D.cell 3 (nth r0 0))) (.ints .i64 (D.ints (D.cell 3 (nth r0 0)))),.arr true (D.nil (D.cell 4 (nth r0 0))) (.ints .i64 (D.ints (D.cell 4 (nth r0 0)))),.int .i64 (D.toInt (D.cell 5 (nth r0 0))),.int .i64 (D.toInt (D.cell 6 (nth r0 0))),.int .i64 (D.toInt (D.cell 7 (nth r0 0))),.int .i64 (D.toInt (D.cell 8 (nth r0 0))),.int .i64 (D.toInt (D.cell 9 (nth r0 0))),.int .i64 (D.toInt (D.cell 10 (nth r0 0))),.int .i64 b1,.int .i64 b2,.int .i64 b3,.int .i64 (D.toInt (D.cell 14 (nth r0 0))),.int .i64 (D.toInt (D.cell 15 (nth r0 0))),.int .i64 (D.toInt (D.cell 16 (nth r0 0))),.int .i64 (D.toInt (D.cell 17 (nth r0 0))),.int .i64 (D.toInt (D.cell 18 (nth r0 0))),.int .i64 (D.toInt (D.cell 19 (nth r0 0))),.int .i64 (D.toInt (D.cell 20 (nth r0 0)))],.int .i64 (nI (List.length (D.ints (D.cell 2 (nth r0 0)))))])
 ((go k spec_Drop [wV false a0 a1z a1 a2z a2 a3z a3 a4z a4 a5 a6 a7 a8 a9 a10 a11 a12 a13 a14 a15 a16 a17 a18 a19 a20,.int .i64 b1,.int .i64 b2,.int .i64 b3]).bind fun r5=>
 cond (!bit (nth r5 1))
 (some [wC true (nth r5 0),.int .i64 0])
 (some [wC true (nth r5 0),.int .i64 1]))))))))):=by kernel_rfl
theorem qi8 (k:Nat)(a0:Int)(a1z:Bool)(a1:L3)(a2z:Bool)(a2:LI)(a3z:Bool)(a3:LI)(a4z:Bool)(a4:LI)(a5 a6 a7 a8 a9 a10 a11 a12 a13 a14 a15 a16 a17 a18 a19 a20 b0 b1 b2 b3:Int):go (k+1) impl_DoAct [wV false a0 a1z a1 a2z a2 a3z a3 a4z a4 a5 a6 a7 a8 a9 a10 a11 a12 a13 a14 a15 a16 a17 a18 a19 a20,.agg [.int .i64 b0,.int .i64 b1,.int .i64 b2,.int .i64 b3]]=
 (go k impl_copyWorld [wV false a0 a1z a1 a2z a2 a3z a3 a4z a4 a5 a6 a7 a8 a9 a10 a11 a12 a13 a14 a15 a16 a17 a18 a19 a20]).bind fun r0=>
 (go k impl_WorldOk [wV false a0 a1z a1 a2z a2 a3z a3 a4z a4 a5 a6 a7 a8 a9 a10 a11 a12 a13 a14 a15 a16 a17 a18 a19 a20]).bind fun r1=>
 cond (!bit (nth r1 0))
 (some [wC true (nth r0 0),.int .i64 ((-1:Int))])
 ((go k impl_ActOk [.agg [.int .i64 b0,.int .i64 b1,.int .i64 b2,.int .i64 b3]]).bind fun r2=>
 cond (!bit (nth r2 0))
 (some [wC true (nth r0 0),.int .i64 ((-1:Int))])
 ((go k impl_World_do [.ptr true [.int .i64 (D.toInt (D.cell 0 (nth r0 0))),.arr true (D.nil (D.cell 1 (nth r0 0))) (.r3 (D.r3 (D.cell 1 (nth r0 0)))),.arr true (D.nil (D.cell 2 (nth r0 0))) (.ints .i64 (D.ints (D.cell 2 (nth r0 0)))),.arr true (D.nil (D.cell 3 (nth r0 0))) (.ints .i64 (D.ints (D.cell 3 (nth r0 0)))),.arr true (D.nil (D.cell 4 (nth r0 0))) (.ints .i64 (D.ints (D.cell 4 (nth r0 0)))),.int .i64 (D.toInt (D.cell 5 (nth r0 0))),.int .i64 (D.toInt (D.cell 6 (nth r0 0))),.int .i64 (D.toInt (D.cell 7 (nth r0 0))),.int .i64 (D.toInt (D.cell 8 (nth r0 0))),.int .i64 (D.toInt (D.cell 9 (nth r0 0))),.int .i64 (D.toInt (D.cell 10 (nth r0 0))),.int .i64 (D.toInt (D.cell 11 (nth r0 0))),.int .i64 (D.toInt (D.cell 12 (nth r0 0))),.int .i64 (D.toInt (D.cell 13 (nth r0 0))),.int .i64 (D.toInt (D.cell 14 (nth r0 0))),.int .i64 (D.toInt (D.cell 15 (nth r0 0))),.int .i64 (D.toInt (D.cell 16 (nth r0 0))),.int .i64 (D.toInt (D.cell 17 (nth r0 0))),.int .i64 (D.toInt (D.cell 18 (nth r0 0))),.int .i64 (D.toInt (D.cell 19 (nth r0 0))),.int .i64 (D.toInt (D.cell 20 (nth r0 0)))],.agg [.int .i64 b0,.int .i64 b1,.int .i64 b2,.int .i64 b3]]).bind fun r3=>
 some [wC true (nth r3 1),.int .i64 (D.toInt (nth r3 0))])):=by kernel_rfl

end Go.Proofs.YtjfjniebmdafeaaGreatDoor
end
section
namespace Go.Proofs.YtjfjniebmdafeaaGreatDoor
open Go.Ev
def qy3 (x0 x1:Int)(z2:Bool)(l3:L3)(z4:Bool)(l5:LI)(z6:Bool)(l7:LI)(z8:Bool)(l9:LI)(x10 x11 x12 x13 x14 x15 x16 x17 x18 x19 x20 x21 x22 x23 x24 x25 x26:Int)(z27:Bool)(l28:L3)(z29:Bool)(l30:LI)(z31:Bool)(l32:LI)(z33:Bool)(l34:LI)(x35 x36 x37 x38 x39 x40 x41 x42 x43 x44 x45 x46 x47 x48 x49 x50 x51:Int):St:=⟨fill 49 [(1,.int .i64 x0),(4,.ptr 4 0 0),(6,.ptr 9 0 0),(7,.int .i64 x1)],[],[.arr true z2 (.r3 l3),.arr true z4 (.ints .i64 l5),.arr true z6 (.ints .i64 l7),.arr true z8 (.ints .i64 l9),wB true 0 x10 x11 x12 x13 x14 x15 x16 x17 x18 x19 x20 x21 x22 x23 x24 x25 x26,.arr true z27 (.r3 l28),.arr true z29 (.ints .i64 l30),.arr true z31 (.ints .i64 l32),.arr true z33 (.ints .i64 l34),wB true 5 x35 x36 x37 x38 x39 x40 x41 x42 x43 x44 x45 x46 x47 x48 x49 x50 x51]⟩
theorem qlu (k:Nat)(a0:Int)(a1z:Bool)(a1:L3)(a2z:Bool)(a2:LI)(a3z:Bool)(a3:LI)(a4z:Bool)(a4:LI)(a5 a6 a7 a8 a9 a10 a11 a12 a13 a14 a15 a16 a17 a18 a19 a20 b:Int):go (k+1) spec_Advance [wV false a0 a1z a1 a2z a2 a3z a3 a4z a4 a5 a6 a7 a8 a9 a10 a11 a12 a13 a14 a15 a16 a17 a18 a19 a20,.int .i64 b]=
 (go k spec_l36Copy [wV false a0 a1z a1 a2z a2 a3z a3 a4z a4 a5 a6 a7 a8 a9 a10 a11 a12 a13 a14 a15 a16 a17 a18 a19 a20]).bind fun r0=>
 (go k spec_WorldOk [wV false a0 a1z a1 a2z a2 a3z a3 a4z a4 a5 a6 a7 a8 a9 a10 a11 a12 a13 a14 a15 a16 a17 a18 a19 a20]).bind fun r1=>
 cond (!bit (nth r1 0))
 (some [wC true (nth r0 0),.bool false])
 ((go k spec_l01In [.int .i64 b,.int .i64 0,.int .i64 100]).bind fun r2=>
 cond (!bit (nth r2 0))
 (some [wC true (nth r0 0),.bool false])
 (lp k spec_Advance [] [] 5 k (wA (qy3 b 0 true [] true [] true [] true [] 0 0 0 0 0 0 0 0 0 0 0 0 0 0 0 0 0) (nth r0 0)))):=by kernel_rfl
theorem qri (k n:Nat)(fu:FU)(x0 x1:Int)(z2:Bool)(l3:L3)(z4:Bool)(l5:LI)(z6:Bool)(l7:LI)(z8:Bool)(l9:LI)(x10 x11 x12 x13 x14 x15 x16 x17 x18 x19 x20 x21 x22 x23 x24 x25 x26:Int)(z27:Bool)(l28:L3)(z29:Bool)(l30:LI)(z31:Bool)(l32:LI)(z33:Bool)(l34:LI)(x35 x36 x37 x38 x39 x40 x41 x42 x43 x44 x45 x46 x47 x48 x49 x50 x51:Int):lp k spec_Advance [] fu 5 (n+1) (qy3 x0 x1 z2 l3 z4 l5 z6 l7 z8 l9 x10 x11 x12 x13 x14 x15 x16 x17 x18 x19 x20 x21 x22 x23 x24 x25 x26 z27 l28 z29 l30 z31 l32 z33 l34 x35 x36 x37 x38 x39 x40 x41 x42 x43 x44 x45 x46 x47 x48 x49 x50 x51)=
 cond (decide (x1<x0))
 ((go k spec_l18Macro [sV false x35 z27 l28 z29 l30 z31 l32 z33 l34,.agg [.int .i64 x36,.int .i64 x37,.int .i64 x38,.int .i64 x39,.int .i64 x40,.int .i64 x41,.int .i64 x42,.int .i64 x43,.int .i64 x44],.int .i64 x45]).bind fun r0=>
 (go k spec_LedgerAdd [.agg [.int .i64 x46,.int .i64 x47,.int .i64 x48,.int .i64 x49],.agg [.int .i64 (D.toInt (D.cell 0 (nth r0 1))),.int .i64 (D.toInt (D.cell 1 (nth r0 1))),.int .i64 (D.toInt (D.cell 2 (nth r0 1))),.int .i64 (D.toInt (D.cell 3 (nth r0 1)))]]).bind fun r1=>
 lp k spec_Advance [] fu 5 n (sA (qy3 x0 (IntKind.wrap .i64 (x1+1)) z2 l3 z4 l5 z6 l7 z8 l9 x10 x11 x12 x13 x14 x15 x16 x17 x18 x19 x20 x21 x22 x23 x24 x25 x26) (nth r0 0) x36 x37 x38 x39 x40 x41 x42 x43 x44 (IntKind.wrap .i64 (x45+1)) (D.toInt (D.cell 0 (nth r1 0))) (D.toInt (D.cell 1 (nth r1 0))) (D.toInt (D.cell 2 (nth r1 0))) (D.toInt (D.cell 3 (nth r1 0))) x50 x51))
 ((go k spec_l36Copy [wV false x35 z27 l28 z29 l30 z31 l32 z33 l34 x36 x37 x38 x39 x40 x41 x42 x43 x44 x45 x46 x47 x48 x49 x50 x51]).bind fun r2=>
 some [wC true (nth r2 0),.bool true]):=by kernel_rfl
def qx7 (x0 x1:Int)(z2:Bool)(l3:L3)(z4:Bool)(l5:LI)(z6:Bool)(l7:LI)(z8:Bool)(l9:LI)(x10 x11 x12 x13 x14 x15 x16 x17 x18 x19 x20 x21 x22 x23 x24 x25 x26:Int)(z27:Bool)(l28:L3)(z29:Bool)(l30:LI)(z31:Bool)(l32:LI)(z33:Bool)(l34:LI)(x35 x36 x37 x38 x39 x40 x41 x42 x43 x44 x45 x46 x47 x48 x49 x50 x51:Int):St:=⟨fill 37 [(4,.ptr 4 0 0),(6,.ptr 9 0 0),(18,.int .i64 x0),(19,.int .i64 x1)],[],[.arr true z2 (.r3 l3),.arr true z4 (.ints .i64 l5),.arr true z6 (.ints .i64 l7),.arr true z8 (.ints .i64 l9),wB true 0 x10 x11 x12 x13 x14 x15 x16 x17 x18 x19 x20 x21 x22 x23 x24 x25 x26,.arr true z27 (.r3 l28),.arr true z29 (.ints .i64 l30),.arr true z31 (.ints .i64 l32),.arr true z33 (.ints .i64 l34),wB true 5 x35 x36 x37 x38 x39 x40 x41 x42 x43 x44 x45 x46 x47 x48 x49 x50 x51]⟩
theorem qi3 (k:Nat)(a0:Int)(a1z:Bool)(a1:L3)(a2z:Bool)(a2:LI)(a3z:Bool)(a3:LI)(a4z:Bool)(a4:LI)(a5 a6 a7 a8 a9 a10 a11 a12 a13 a14 a15 a16 a17 a18 a19 a20 b:Int):go (k+1) impl_Advance [wV false a0 a1z a1 a2z a2 a3z a3 a4z a4 a5 a6 a7 a8 a9 a10 a11 a12 a13 a14 a15 a16 a17 a18 a19 a20,.int .i64 b]=
 (go k impl_copyWorld [wV false a0 a1z a1 a2z a2 a3z a3 a4z a4 a5 a6 a7 a8 a9 a10 a11 a12 a13 a14 a15 a16 a17 a18 a19 a20]).bind fun r0=>
 (go k impl_WorldOk [wV false a0 a1z a1 a2z a2 a3z a3 a4z a4 a5 a6 a7 a8 a9 a10 a11 a12 a13 a14 a15 a16 a17 a18 a19 a20]).bind fun r1=>
 cond (!bit (nth r1 0))
 (some [wC true (nth r0 0),.bool false])
 ((go k impl_within [.int .i64 b,.int .i64 0,.int .i64 100]).bind fun r2=>
 cond (!bit (nth r2 0))
 (some [wC true (nth r0 0),.bool false])
 (lp k impl_Advance [] [] 5 k (wA (qx7 b 0 true [] true [] true [] true [] 0 0 0 0 0 0 0 0 0 0 0 0 0 0 0 0 0) (nth r0 0)))):=by kernel_rfl
theorem qqm (k n:Nat)(fu:FU)(x0 x1:Int)(z2:Bool)(l3:L3)(z4:Bool)(l5:LI)(z6:Bool)(l7:LI)(z8:Bool)(l9:LI)(x10 x11 x12 x13 x14 x15 x16 x17 x18 x19 x20 x21 x22 x23 x24 x25 x26:Int)(z27:Bool)(l28:L3)(z29:Bool)(l30:LI)(z31:Bool)(l32:LI)(z33:Bool)(l34:LI)(x35 x36 x37 x38 x39 x40 x41 x42 x43 x44 x45 x46 x47 x48 x49 x50 x51:Int):lp k impl_Advance [] fu 5 (n+1) (qx7 x0 x1 z2 l3 z4 l5 z6 l7 z8 l9 x10 x11 x12 x13 x14 x15 x16 x17 x18 x19 x20 x21 x22 x23 x24 x25 x26 z27 l28 z29 l30 z31 l32 z33 l34 x35 x36 x37 x38 x39 x40 x41 x42 x43 x44 x45 x46 x47 x48 x49 x50 x51)=
 cond (decide (x1<x0))
 ((go k impl_State_runMacro [.ptr true [.int .i64 x35,.arr true z27 (.r3 l28),.arr true z29 (.ints .i64 l30),.arr true z31 (.ints .i64 l32),.arr true z33 (.ints .i64 l34)],.agg [.int .i64 x36,.int .i64 x37,.int .i64 x38,.int .i64 x39,.int .i64 x40,.int .i64 x41,.int .i64 x42,.int .i64 x43,.int .i64 x44],.int .i64 x45]).bind fun r0=>
 (go k impl_LedgerAdd [.agg [.int .i64 x46,.int .i64 x47,.int .i64 x48,.int .i64 x49],.agg [.int .i64 (D.toInt (D.cell 0 (nth r0 0))),.int .i64 (D.toInt (D.cell 1 (nth r0 0))),.int .i64 (D.toInt (D.cell 2 (nth r0 0))),.int .i64 (D.toInt (D.cell 3 (nth r0 0)))]]).bind fun r1=>
 lp k impl_Advance [] fu 5 n (sA (qx7 x0 (IntKind.wrap .i64 (x1+1)) z2 l3 z4 l5 z6 l7 z8 l9 x10 x11 x12 x13 x14 x15 x16 x17 x18 x19 x20 x21 x22 x23 x24 x25 x26) (nth r0 1) x36 x37 x38 x39 x40 x41 x42 x43 x44 (IntKind.wrap .i64 (x45+1)) (D.toInt (D.cell 0 (nth r1 0))) (D.toInt (D.cell 1 (nth r1 0))) (D.toInt (D.cell 2 (nth r1 0))) (D.toInt (D.cell 3 (nth r1 0))) x50 x51))
 (some [wV true x35 z27 l28 z29 l30 z31 l32 z33 l34 x36 x37 x38 x39 x40 x41 x42 x43 x44 x45 x46 x47 x48 x49 x50 x51,.bool true]):=by kernel_rfl

end Go.Proofs.YtjfjniebmdafeaaGreatDoor
end
section
namespace Go.Proofs.YtjfjniebmdafeaaGreatDoor
open Go.Ev
theorem qko (k:Nat)(a0:Int)(a1z:Bool)(a1:L3)(a2z:Bool)(a2:LI)(a3z:Bool)(a3:LI)(a4z:Bool)(a4:LI)(b c d0 d1 d2 d3:Int):go (k+1) impl_State_remove [.ptr true [.int .i64 a0,.arr true a1z (.r3 a1),.arr true a2z (.ints .i64 a2),.arr true a3z (.ints .i64 a3),.arr true a4z (.ints .i64 a4)],.int .i64 b,.int .i64 c,.ptr true [.int .i64 d0,.int .i64 d1,.int .i64 d2,.int .i64 d3]]=
 cond (decide (0≤b)&&decide (b<nI (List.length a3)))
 (cond (decide (0≤b)&&decide (b<nI (List.length a2)))
 ((go k impl_ShareOut [.int .i64 (List.getD a3 (Int.toNat b) 0),.int .i64 c,.int .i64 (List.getD a2 (Int.toNat b) 0)]).bind fun r0=>
 cond (decide (0≤b)&&decide (b<nI (List.length a2)))
 (cond (decide (0≤b)&&decide (b<nI (List.length a2)))
 (cond (decide (0≤b)&&decide (b<nI (List.length a3)))
 (cond (decide (0≤b)&&decide (b<nI (List.length a3)))
 (some [.ptr true [.int .i64 a0,.arr true a1z (.r3 a1),.arr true a2z (.ints .i64 (List.set a2 (Int.toNat b) (IntKind.wrap .i64 (List.getD a2 (Int.toNat b) 0 - c)))),.arr true a3z (.ints .i64 (List.set a3 (Int.toNat b) (IntKind.wrap .i64 (List.getD a3 (Int.toNat b) 0 - D.toInt (nth r0 0))))),.arr true a4z (.ints .i64 a4)],.ptr true [.int .i64 d0,.int .i64 (IntKind.wrap .i64 (d1+c)),.int .i64 d2,.int .i64 (IntKind.wrap .i64 (d3+D.toInt (nth r0 0)))]])
 none)
 none)
 none)
 none)
 none)
 none:=by kernel_rfl
theorem qkb (k:Nat)(a0:Int)(a1z:Bool)(a1:L3)(a2z:Bool)(a2:LI)(a3z:Bool)(a3:LI)(a4z:Bool)(a4:LI)(b0 b1 b2:Int):go (k+1) impl_State_border [.ptr true [.int .i64 a0,.arr true a1z (.r3 a1),.arr true a2z (.ints .i64 a2),.arr true a3z (.ints .i64 a3),.arr true a4z (.ints .i64 a4)],.agg [.int .i64 b0,.int .i64 b1,.int .i64 b2]]=
 cond (decide (0≤IntKind.wrap .i64 (nI (List.length a2) - 1))&&decide (IntKind.wrap .i64 (nI (List.length a2) - 1)<nI (List.length a2)))
 ((go k impl_State_remove [.ptr true [.int .i64 a0,.arr true a1z (.r3 a1),.arr true a2z (.ints .i64 a2),.arr true a3z (.ints .i64 a3),.arr true a4z (.ints .i64 a4)],.int .i64 (IntKind.wrap .i64 (nI (List.length a2) - 1)),.int .i64 (IntKind.wrap .i64 (Int.tdiv (IntKind.wrap .i64 (List.getD a2 (Int.toNat (IntKind.wrap .i64 (nI (List.length a2) - 1))) 0*b2)) 1000)),.ptr true [.int .i64 0,.int .i64 0,.int .i64 0,.int .i64 0]]).bind fun r0=>
 (go k impl_sum [.arr false (D.nil (D.cell 2 (nth r0 0))) (.ints .i64 (D.ints (D.cell 2 (nth r0 0))))]).bind fun r1=>
 cond (decide (IntKind.wrap .i64 (D.toInt (nth r1 0)+b0)≤10000000))
 (cond (decide (0≤0)&&decide (0<nI (List.length (D.ints (D.cell 2 (nth r0 0))))))
 (cond (decide (0≤0)&&decide (0<nI (List.length (D.ints (D.cell 2 (nth r0 0))))))
 (cond (decide (0≤0)&&decide (0<nI (List.length (D.ints (D.cell 3 (nth r0 0))))))
 (cond (decide (0≤0)&&decide (0<nI (List.length (D.ints (D.cell 3 (nth r0 0))))))
 (some [.agg [.int .i64 b0,.int .i64 (D.toInt (D.cell 1 (nth r0 1))),.int .i64 (IntKind.wrap .i64 (b0*b1)),.int .i64 (D.toInt (D.cell 3 (nth r0 1)))],.ptr true [.int .i64 (D.toInt (D.cell 0 (nth r0 0))),.arr true (D.nil (D.cell 1 (nth r0 0))) (.r3 (D.r3 (D.cell 1 (nth r0 0)))),.arr true (D.nil (D.cell 2 (nth r0 0))) (.ints .i64 (List.set (D.ints (D.cell 2 (nth r0 0))) (Int.toNat 0) (IntKind.wrap .i64 (List.getD (D.ints (D.cell 2 (nth r0 0))) (Int.toNat 0) 0+b0)))),.arr true (D.nil (D.cell 3 (nth r0 0))) (.ints .i64 (List.set (D.ints (D.cell 3 (nth r0 0))) (Int.toNat 0) (IntKind.wrap .i64 (List.getD (D.ints (D.cell 3 (nth r0 0))) (Int.toNat 0) 0+IntKind.wrap .i64 (b0*b1))))),.arr true (D.nil (D.cell 4 (nth r0 0))) (.ints .i64 (D.ints (D.cell 4 (nth r0 0))))]])
 none)
 none)
 none)
 none)
 (some [.agg [.int .i64 (D.toInt (D.cell 0 (nth r0 1))),.int .i64 (D.toInt (D.cell 1 (nth r0 1))),.int .i64 (D.toInt (D.cell 2 (nth r0 1))),.int .i64 (D.toInt (D.cell 3 (nth r0 1)))],.ptr true [.int .i64 (D.toInt (D.cell 0 (nth r0 0))),.arr true (D.nil (D.cell 1 (nth r0 0))) (.r3 (D.r3 (D.cell 1 (nth r0 0)))),.arr true (D.nil (D.cell 2 (nth r0 0))) (.ints .i64 (D.ints (D.cell 2 (nth r0 0)))),.arr true (D.nil (D.cell 3 (nth r0 0))) (.ints .i64 (D.ints (D.cell 3 (nth r0 0)))),.arr true (D.nil (D.cell 4 (nth r0 0))) (.ints .i64 (D.ints (D.cell 4 (nth r0 0))))]]))
 none:=by kernel_rfl
theorem qkl (k:Nat)(a0:Int)(a1z:Bool)(a1:L3)(a2z:Bool)(a2:LI)(a3z:Bool)(a3:LI)(a4z:Bool)(a4:LI)(b c:Int):go (k+1) impl_State_partOf [sV false a0 a1z a1 a2z a2 a3z a3 a4z a4,.int .i64 b,.int .i64 c]=
 cond (decide (0≤c)&&decide (c<nI (List.length a1)))
 ((go k impl_WidthOf [.int .i64 (Prod.fst (Prod.snd (List.getD a1 (Int.toNat c) zz3)))]).bind fun r0=>
 some [.int .i64 (IntKind.wrap .i64 (Int.tdiv (IntKind.wrap .i64 (b*D.toInt (nth r0 0))) 16))])
 none:=by kernel_rfl
def qys (x0 x1 x2 x3:Int)(z4:Bool)(l5:L3)(z6:Bool)(l7:LI)(z8:Bool)(l9:LI)(z10:Bool)(l11:LI)(x12 x13 x14 x15 x16:Int):St:=⟨fill 60 [(0,.ptr 4 0 0),(1,.int .i64 x0),(4,.ptr 5 0 0),(5,.int .i64 x1),(38,.int .i64 x2),(39,.int .i64 x3)],[.ptr 4 0 0],[.arr true z4 (.r3 l5),.arr true z6 (.ints .i64 l7),.arr true z8 (.ints .i64 l9),.arr true z10 (.ints .i64 l11),sB true 0 x12,.box true [.int .i64 x13,.int .i64 x14,.int .i64 x15,.int .i64 x16]]⟩
def qyt (x0 x1 x2 x3:Int)(z4:Bool)(l5:L3)(z6:Bool)(l7:LI)(z8:Bool)(l9:LI)(z10:Bool)(l11:LI)(x12 x13 x14 x15 x16:Int):St:=⟨fill 60 [(0,.ptr 4 0 0),(1,.int .i64 x0),(4,.ptr 5 0 0),(5,.int .i64 x1),(12,.int .i64 x2),(13,.int .i64 x3)],[.ptr 4 0 0],[.arr true z4 (.r3 l5),.arr true z6 (.ints .i64 l7),.arr true z8 (.ints .i64 l9),.arr true z10 (.ints .i64 l11),sB true 0 x12,.box true [.int .i64 x13,.int .i64 x14,.int .i64 x15,.int .i64 x16]]⟩
theorem qkm (k:Nat)(a0:Int)(a1z:Bool)(a1:L3)(a2z:Bool)(a2:LI)(a3z:Bool)(a3:LI)(a4z:Bool)(a4:LI)(b:Int):go (k+1) impl_State_rain [.ptr true [.int .i64 a0,.arr true a1z (.r3 a1),.arr true a2z (.ints .i64 a2),.arr true a3z (.ints .i64 a3),.arr true a4z (.ints .i64 a4)],.int .i64 b]=
 lp k impl_State_rain [.ptr true [.int .i64 a0,.arr true a1z (.r3 a1),.arr true a2z (.ints .i64 a2),.arr true a3z (.ints .i64 a3),.arr true a4z (.ints .i64 a4)]] [] 3 k (qyt b 0 (nI (List.length a2)) 0 a1z a1 a2z a2 a3z a3 a4z a4 a0 0 0 0 0):=by kernel_rfl
theorem qq7 (k n:Nat)(fu:FU)(a0:Int)(a1z:Bool)(a1:L3)(a2z:Bool)(a2:LI)(a3z:Bool)(a3:LI)(a4z:Bool)(a4:LI)(x0 x1 x2 x3:Int)(z4:Bool)(l5:L3)(z6:Bool)(l7:LI)(z8:Bool)(l9:LI)(z10:Bool)(l11:LI)(x12 x13 x14 x15 x16:Int):lp k impl_State_rain [.ptr true [.int .i64 a0,.arr true a1z (.r3 a1),.arr true a2z (.ints .i64 a2),.arr true a3z (.ints .i64 a3),.arr true a4z (.ints .i64 a4)]] fu 10 (n+1) (qys x0 x1 x2 x3 z4 l5 z6 l7 z8 l9 z10 l11 x12 x13 x14 x15 x16)=
 cond (decide (x3<x2))
 (cond (decide (0≤x3)&&decide (x3<nI (List.length l7)))
 ((go k impl_State_partOf [sV false x12 z4 l5 z6 l7 z8 l9 z10 l11,.int .i64 x0,.int .i64 x3]).bind fun r0=>
 cond (decide (0≤x3)&&decide (x3<nI (List.length l7)))
 (lp k impl_State_rain [.ptr true [.int .i64 a0,.arr true a1z (.r3 a1),.arr true a2z (.ints .i64 a2),.arr true a3z (.ints .i64 a3),.arr true a4z (.ints .i64 a4)]] fu 10 n (qys x0 x1 x2 (IntKind.wrap .i64 (x3+1)) z4 l5 z6 (List.set l7 (Int.toNat x3) (IntKind.wrap .i64 (List.getD l7 (Int.toNat x3) 0+D.toInt (nth r0 0)))) z8 l9 z10 l11 x12 x13 x14 x15 x16))
 none)
 none)
 (some [.agg [.int .i64 x1,.int .i64 0,.int .i64 0,.int .i64 0],.ptr true [.int .i64 x12,.arr true z4 (.r3 l5),.arr true z6 (.ints .i64 l7),.arr true z8 (.ints .i64 l9),.arr true z10 (.ints .i64 l11)]]):=by kernel_rfl
theorem qq8 (k n:Nat)(fu:FU)(a0:Int)(a1z:Bool)(a1:L3)(a2z:Bool)(a2:LI)(a3z:Bool)(a3:LI)(a4z:Bool)(a4:LI)(x0 x1 x2 x3:Int)(z4:Bool)(l5:L3)(z6:Bool)(l7:LI)(z8:Bool)(l9:LI)(z10:Bool)(l11:LI)(x12 x13 x14 x15 x16:Int):lp k impl_State_rain [.ptr true [.int .i64 a0,.arr true a1z (.r3 a1),.arr true a2z (.ints .i64 a2),.arr true a3z (.ints .i64 a3),.arr true a4z (.ints .i64 a4)]] fu 3 (n+1) (qyt x0 x1 x2 x3 z4 l5 z6 l7 z8 l9 z10 l11 x12 x13 x14 x15 x16)=
 cond (decide (x3<x2))
 ((go k impl_State_partOf [sV false x12 z4 l5 z6 l7 z8 l9 z10 l11,.int .i64 x0,.int .i64 x3]).bind fun r0=>
 lp k impl_State_rain [.ptr true [.int .i64 a0,.arr true a1z (.r3 a1),.arr true a2z (.ints .i64 a2),.arr true a3z (.ints .i64 a3),.arr true a4z (.ints .i64 a4)]] fu 3 n (qyt x0 (IntKind.wrap .i64 (x1+D.toInt (nth r0 0))) x2 (IntKind.wrap .i64 (x3+1)) z4 l5 z6 l7 z8 l9 z10 l11 x12 x13 x14 x15 x16))
 ((go k impl_sum [.arr false z6 (.ints .i64 l7)]).bind fun r1=>
 cond (decide (10000000<IntKind.wrap .i64 (D.toInt (nth r1 0)+x1)))
 (some [.agg [.int .i64 0,.int .i64 0,.int .i64 0,.int .i64 0],.ptr true [.int .i64 x12,.arr true z4 (.r3 l5),.arr true z6 (.ints .i64 l7),.arr true z8 (.ints .i64 l9),.arr true z10 (.ints .i64 l11)]])
 (lp k impl_State_rain [.ptr true [.int .i64 a0,.arr true a1z (.r3 a1),.arr true a2z (.ints .i64 a2),.arr true a3z (.ints .i64 a3),.arr true a4z (.ints .i64 a4)]] fu 10 k (qys x0 x1 (nI (List.length l7)) 0 z4 l5 z6 l7 z8 l9 z10 l11 x12 x13 x14 x15 x16))):=by kernel_rfl
def qyu (x0 x1 x2:Int)(z3:Bool)(l4:L3)(z5:Bool)(l6:LI)(z7:Bool)(l8:LI)(z9:Bool)(l10:LI)(x11 x12 x13 x14 x15 x16 x17 x18 x19:Int):St:=⟨fill 32 [(0,.ptr 4 0 0),(1,.int .i64 x0),(4,.ptr 5 0 0),(5,.ptr 6 0 0),(12,.sl 1 none),(13,.int .i64 x1),(14,.int .i64 x2)],[.ptr 4 0 0],[.arr true z3 (.r3 l4),.arr true z5 (.ints .i64 l6),.arr true z7 (.ints .i64 l8),.arr true z9 (.ints .i64 l10),sB true 0 x11,.box true [.int .i64 x12,.int .i64 x13,.int .i64 x14,.int .i64 x15],.box true [.int .i64 x16,.int .i64 x17,.int .i64 x18,.int .i64 x19]]⟩
theorem qkr (k:Nat)(a0:Int)(a1z:Bool)(a1:L3)(a2z:Bool)(a2:LI)(a3z:Bool)(a3:LI)(a4z:Bool)(a4:LI)(b:Int):go (k+1) impl_State_soak [.ptr true [.int .i64 a0,.arr true a1z (.r3 a1),.arr true a2z (.ints .i64 a2),.arr true a3z (.ints .i64 a3),.arr true a4z (.ints .i64 a4)],.int .i64 b]=
 lp k impl_State_soak [.ptr true [.int .i64 a0,.arr true a1z (.r3 a1),.arr true a2z (.ints .i64 a2),.arr true a3z (.ints .i64 a3),.arr true a4z (.ints .i64 a4)]] [] 3 k (qyu b (nI (List.length a2)) 0 a1z a1 a2z a2 a3z a3 a4z a4 a0 0 0 0 0 0 0 0 0):=by kernel_rfl
theorem qq9 (k n:Nat)(fu:FU)(a0:Int)(a1z:Bool)(a1:L3)(a2z:Bool)(a2:LI)(a3z:Bool)(a3:LI)(a4z:Bool)(a4:LI)(x0 x1 x2:Int)(z3:Bool)(l4:L3)(z5:Bool)(l6:LI)(z7:Bool)(l8:LI)(z9:Bool)(l10:LI)(x11 x12 x13 x14 x15 x16 x17 x18 x19:Int):lp k impl_State_soak [.ptr true [.int .i64 a0,.arr true a1z (.r3 a1),.arr true a2z (.ints .i64 a2),.arr true a3z (.ints .i64 a3),.arr true a4z (.ints .i64 a4)]] fu 3 (n+1) (qyu x0 x1 x2 z3 l4 z5 l6 z7 l8 z9 l10 x11 x12 x13 x14 x15 x16 x17 x18 x19)=
 cond (decide (x2<x1))
 (cond (decide (0≤x2)&&decide (x2<nI (List.length l6)))
 ((go k impl_State_partOf [sV false x11 z3 l4 z5 l6 z7 l8 z9 l10,.int .i64 x0,.int .i64 x2]).bind fun r0=>
 cond (decide (0≤x2)&&decide (x2<nI (List.length l8)))
 (cond (decide (0≤x2)&&decide (x2<nI (List.length l6)))
 ((go k impl_ShareOut [.int .i64 (List.getD l8 (Int.toNat x2) 0),.int .i64 (if D.toInt (nth r0 0)<List.getD l6 (Int.toNat x2) 0 then D.toInt (nth r0 0) else List.getD l6 (Int.toNat x2) 0),.int .i64 (List.getD l6 (Int.toNat x2) 0)]).bind fun r1=>
 cond (decide (0≤x2)&&decide (x2<nI (List.length l6)))
 (cond (decide (0≤x2)&&decide (x2<nI (List.length l6)))
 (cond (decide (0≤x2)&&decide (x2<nI (List.length l8)))
 (cond (decide (0≤x2)&&decide (x2<nI (List.length l8)))
 (lp k impl_State_soak [.ptr true [.int .i64 a0,.arr true a1z (.r3 a1),.arr true a2z (.ints .i64 a2),.arr true a3z (.ints .i64 a3),.arr true a4z (.ints .i64 a4)]] fu 3 n (qyu x0 x1 (IntKind.wrap .i64 (x2+1)) z3 l4 z5 (List.set l6 (Int.toNat x2) (IntKind.wrap .i64 (List.getD l6 (Int.toNat x2) 0 - if D.toInt (nth r0 0)<List.getD l6 (Int.toNat x2) 0 then D.toInt (nth r0 0) else List.getD l6 (Int.toNat x2) 0))) z7 (List.set l8 (Int.toNat x2) (IntKind.wrap .i64 (List.getD l8 (Int.toNat x2) 0 - D.toInt (nth r1 0)))) z9 l10 x11 x12 x13 x14 x15 x16 (IntKind.wrap .i64 (x17+if D.toInt (nth r0 0)<List.getD l6 (Int.toNat x2) 0 then D.toInt (nth r0 0) else List.getD l6 (Int.toNat x2) 0)) x18 (IntKind.wrap .i64 (x19+D.toInt (nth r1 0)))))
 none)
 none)
 none)
 none)
 none)
 none)
 none)
 (some [.agg [.int .i64 x16,.int .i64 x17,.int .i64 x18,.int .i64 x19],.ptr true [.int .i64 x11,.arr true z3 (.r3 l4),.arr true z5 (.ints .i64 l6),.arr true z7 (.ints .i64 l8),.arr true z9 (.ints .i64 l10)]]):=by kernel_rfl
def qyl (x0 x1 x2:Int)(z3:Bool)(l4:L3)(z5:Bool)(l6:LI)(z7:Bool)(l8:LI)(z9:Bool)(l10:LI)(x11 x12 x13 x14 x15 x16 x17 x18 x19:Int):St:=⟨fill 41 [(0,.ptr 4 0 0),(1,.int .i64 x0),(4,.ptr 5 0 0),(5,.ptr 6 0 0),(13,.sl 2 none),(14,.int .i64 x1),(15,.int .i64 x2)],[.ptr 4 0 0],[.arr true z3 (.r3 l4),.arr true z5 (.ints .i64 l6),.arr true z7 (.ints .i64 l8),.arr true z9 (.ints .i64 l10),sB true 0 x11,.box true [.int .i64 x12,.int .i64 x13,.int .i64 x14,.int .i64 x15],.box true [.int .i64 x16,.int .i64 x17,.int .i64 x18,.int .i64 x19]]⟩
theorem qkd (k:Nat)(a0:Int)(a1z:Bool)(a1:L3)(a2z:Bool)(a2:LI)(a3z:Bool)(a3:LI)(a4z:Bool)(a4:LI)(b:Int):go (k+1) impl_State_decay [.ptr true [.int .i64 a0,.arr true a1z (.r3 a1),.arr true a2z (.ints .i64 a2),.arr true a3z (.ints .i64 a3),.arr true a4z (.ints .i64 a4)],.int .i64 b]=
 lp k impl_State_decay [.ptr true [.int .i64 a0,.arr true a1z (.r3 a1),.arr true a2z (.ints .i64 a2),.arr true a3z (.ints .i64 a3),.arr true a4z (.ints .i64 a4)]] [] 3 k (qyl b (nI (List.length a3)) 0 a1z a1 a2z a2 a3z a3 a4z a4 a0 0 0 0 0 0 0 0 0):=by kernel_rfl
theorem qq0 (k n:Nat)(fu:FU)(a0:Int)(a1z:Bool)(a1:L3)(a2z:Bool)(a2:LI)(a3z:Bool)(a3:LI)(a4z:Bool)(a4:LI)(x0 x1 x2:Int)(z3:Bool)(l4:L3)(z5:Bool)(l6:LI)(z7:Bool)(l8:LI)(z9:Bool)(l10:LI)(x11 x12 x13 x14 x15 x16 x17 x18 x19:Int):lp k impl_State_decay [.ptr true [.int .i64 a0,.arr true a1z (.r3 a1),.arr true a2z (.ints .i64 a2),.arr true a3z (.ints .i64 a3),.arr true a4z (.ints .i64 a4)]] fu 3 (n+1) (qyl x0 x1 x2 z3 l4 z5 l6 z7 l8 z9 l10 x11 x12 x13 x14 x15 x16 x17 x18 x19)=
 cond (decide (x2<x1))
 (cond (decide (0≤x2)&&decide (x2<nI (List.length l8)))
 (cond (decide (0≤x2)&&decide (x2<nI (List.length l8)))
 (cond (decide (0≤x2)&&decide (x2<nI (List.length l8)))
 (lp k impl_State_decay [.ptr true [.int .i64 a0,.arr true a1z (.r3 a1),.arr true a2z (.ints .i64 a2),.arr true a3z (.ints .i64 a3),.arr true a4z (.ints .i64 a4)]] fu 3 n (qyl x0 x1 (IntKind.wrap .i64 (x2+1)) z3 l4 z5 l6 z7 (List.set l8 (Int.toNat x2) (IntKind.wrap .i64 (List.getD l8 (Int.toNat x2) 0 - IntKind.wrap .i64 (Int.tdiv (IntKind.wrap .i64 (List.getD l8 (Int.toNat x2) 0*x0)) 1000)))) z9 l10 x11 x12 x13 x14 x15 x16 x17 x18 (IntKind.wrap .i64 (x19+IntKind.wrap .i64 (Int.tdiv (IntKind.wrap .i64 (List.getD l8 (Int.toNat x2) 0*x0)) 1000)))))
 none)
 none)
 none)
 (some [.agg [.int .i64 x16,.int .i64 x17,.int .i64 x18,.int .i64 x19],.ptr true [.int .i64 x11,.arr true z3 (.r3 l4),.arr true z5 (.ints .i64 l6),.arr true z7 (.ints .i64 l8),.arr true z9 (.ints .i64 l10)]]):=by kernel_rfl
def qyo (x0:Int)(z1:Bool)(l2:L3)(z3:Bool)(l4:LI)(z5:Bool)(l6:LI)(z7:Bool)(l8:LI)(x9:Int):St:=⟨fill 15 [(0,.ptr 4 0 0),(3,.int .i64 x0)],[.ptr 4 0 0],[.arr true z1 (.r3 l2),.arr true z3 (.ints .i64 l4),.arr true z5 (.ints .i64 l6),.arr true z7 (.ints .i64 l8),sB true 0 x9]⟩
theorem qki (k:Nat)(a0:Int)(a1z:Bool)(a1:L3)(a2z:Bool)(a2:LI)(a3z:Bool)(a3:LI)(a4z:Bool)(a4:LI):go (k+1) impl_State_macro [.ptr true [.int .i64 a0,.arr true a1z (.r3 a1),.arr true a2z (.ints .i64 a2),.arr true a3z (.ints .i64 a3),.arr true a4z (.ints .i64 a4)]]=
 lp k impl_State_macro [.ptr true [.int .i64 a0,.arr true a1z (.r3 a1),.arr true a2z (.ints .i64 a2),.arr true a3z (.ints .i64 a3),.arr true a4z (.ints .i64 a4)]] [] 1 k (qyo 0 a1z a1 a2z a2 a3z a3 a4z a4 a0):=by kernel_rfl
theorem qq3 (k n:Nat)(fu:FU)(a0:Int)(a1z:Bool)(a1:L3)(a2z:Bool)(a2:LI)(a3z:Bool)(a3:LI)(a4z:Bool)(a4:LI)(x0:Int)(z1:Bool)(l2:L3)(z3:Bool)(l4:LI)(z5:Bool)(l6:LI)(z7:Bool)(l8:LI)(x9:Int):lp k impl_State_macro [.ptr true [.int .i64 a0,.arr true a1z (.r3 a1),.arr true a2z (.ints .i64 a2),.arr true a3z (.ints .i64 a3),.arr true a4z (.ints .i64 a4)]] fu 1 (n+1) (qyo x0 z1 l2 z3 l4 z5 l6 z7 l8 x9)=
 cond (decide (x0<16))
 ((go k impl_Mesh_active [.agg [.int .i64 x9,.arr false z1 (.r3 l2)],.int .i64 x0]).bind fun r0=>
 (go k impl_State_move [.ptr true [.int .i64 x9,.arr true z1 (.r3 l2),.arr true z3 (.ints .i64 l4),.arr true z5 (.ints .i64 l6),.arr true z7 (.ints .i64 l8)],.arr false (D.nil (nth r0 0)) (.ints .i64 (D.ints (nth r0 0)))]).bind fun r1=>
 lp k impl_State_macro [.ptr true [.int .i64 a0,.arr true a1z (.r3 a1),.arr true a2z (.ints .i64 a2),.arr true a3z (.ints .i64 a3),.arr true a4z (.ints .i64 a4)]] fu 1 n (sA (qyo (IntKind.wrap .i64 (x0+1))) (nth r1 0)))
 (some [.ptr true [.int .i64 x9,.arr true z1 (.r3 l2),.arr true z3 (.ints .i64 l4),.arr true z5 (.ints .i64 l6),.arr true z7 (.ints .i64 l8)]]):=by kernel_rfl
theorem qkp (k:Nat)(a0:Int)(a1z:Bool)(a1:L3)(a2z:Bool)(a2:LI)(a3z:Bool)(a3:LI)(a4z:Bool)(a4:LI)(b0 b1 b2 b3 b4 b5 b6 b7 b8 c:Int):go (k+1) impl_State_runMacro [.ptr true [.int .i64 a0,.arr true a1z (.r3 a1),.arr true a2z (.ints .i64 a2),.arr true a3z (.ints .i64 a3),.arr true a4z (.ints .i64 a4)],.agg [.int .i64 b0,.int .i64 b1,.int .i64 b2,.int .i64 b3,.int .i64 b4,.int .i64 b5,.int .i64 b6,.int .i64 b7,.int .i64 b8],.int .i64 c]=
 (go k impl_State_border [.ptr true [.int .i64 a0,.arr true a1z (.r3 a1),.arr true a2z (.ints .i64 a2),.arr true a3z (.ints .i64 a3),.arr true a4z (.ints .i64 a4)],.agg [.int .i64 b0,.int .i64 b1,.int .i64 b2]]).bind fun r0=>
 (go k impl_State_rain [.ptr true [.int .i64 (D.toInt (D.cell 0 (nth r0 1))),.arr true (D.nil (D.cell 1 (nth r0 1))) (.r3 (D.r3 (D.cell 1 (nth r0 1)))),.arr true (D.nil (D.cell 2 (nth r0 1))) (.ints .i64 (D.ints (D.cell 2 (nth r0 1)))),.arr true (D.nil (D.cell 3 (nth r0 1))) (.ints .i64 (D.ints (D.cell 3 (nth r0 1)))),.arr true (D.nil (D.cell 4 (nth r0 1))) (.ints .i64 (D.ints (D.cell 4 (nth r0 1))))],.int .i64 b3]).bind fun r1=>
 (go k impl_LedgerAdd [.agg [.int .i64 (D.toInt (D.cell 0 (nth r0 0))),.int .i64 (D.toInt (D.cell 1 (nth r0 0))),.int .i64 (D.toInt (D.cell 2 (nth r0 0))),.int .i64 (D.toInt (D.cell 3 (nth r0 0)))],.agg [.int .i64 (D.toInt (D.cell 0 (nth r1 0))),.int .i64 (D.toInt (D.cell 1 (nth r1 0))),.int .i64 (D.toInt (D.cell 2 (nth r1 0))),.int .i64 (D.toInt (D.cell 3 (nth r1 0)))]]).bind fun r2=>
 (go k impl_State_soak [.ptr true [.int .i64 (D.toInt (D.cell 0 (nth r1 1))),.arr true (D.nil (D.cell 1 (nth r1 1))) (.r3 (D.r3 (D.cell 1 (nth r1 1)))),.arr true (D.nil (D.cell 2 (nth r1 1))) (.ints .i64 (D.ints (D.cell 2 (nth r1 1)))),.arr true (D.nil (D.cell 3 (nth r1 1))) (.ints .i64 (D.ints (D.cell 3 (nth r1 1)))),.arr true (D.nil (D.cell 4 (nth r1 1))) (.ints .i64 (D.ints (D.cell 4 (nth r1 1))))],.int .i64 b4]).bind fun r3=>
 (go k impl_LedgerAdd [.agg [.int .i64 (D.toInt (D.cell 0 (nth r2 0))),.int .i64 (D.toInt (D.cell 1 (nth r2 0))),.int .i64 (D.toInt (D.cell 2 (nth r2 0))),.int .i64 (D.toInt (D.cell 3 (nth r2 0)))],.agg [.int .i64 (D.toInt (D.cell 0 (nth r3 0))),.int .i64 (D.toInt (D.cell 1 (nth r3 0))),.int .i64 (D.toInt (D.cell 2 (nth r3 0))),.int .i64 (D.toInt (D.cell 3 (nth r3 0)))]]).bind fun r4=>
 (go k impl_State_decay [.ptr true [.int .i64 (D.toInt (D.cell 0 (nth r3 1))),.arr true (D.nil (D.cell 1 (nth r3 1))) (.r3 (D.r3 (D.cell 1 (nth r3 1)))),.arr true (D.nil (D.cell 2 (nth r3 1))) (.ints .i64 (D.ints (D.cell 2 (nth r3 1)))),.arr true (D.nil (D.cell 3 (nth r3 1))) (.ints .i64 (D.ints (D.cell 3 (nth r3 1)))),.arr true (D.nil (D.cell 4 (nth r3 1))) (.ints .i64 (D.ints (D.cell 4 (nth r3 1))))],.int .i64 b5]).bind fun r5=>
 (go k impl_LedgerAdd [.agg [.int .i64 (D.toInt (D.cell 0 (nth r4 0))),.int .i64 (D.toInt (D.cell 1 (nth r4 0))),.int .i64 (D.toInt (D.cell 2 (nth r4 0))),.int .i64 (D.toInt (D.cell 3 (nth r4 0)))],.agg [.int .i64 (D.toInt (D.cell 0 (nth r5 0))),.int .i64 (D.toInt (D.cell 1 (nth r5 0))),.int .i64 (D.toInt (D.cell 2 (nth r5 0))),.int .i64 (D.toInt (D.cell 3 (nth r5 0)))]]).bind fun r6=>
 (go k impl_State_macro [.ptr true [.int .i64 (D.toInt (D.cell 0 (nth r5 1))),.arr true (D.nil (D.cell 1 (nth r5 1))) (.r3 (D.r3 (D.cell 1 (nth r5 1)))),.arr true (D.nil (D.cell 2 (nth r5 1))) (.ints .i64 (D.ints (D.cell 2 (nth r5 1)))),.arr true (D.nil (D.cell 3 (nth r5 1))) (.ints .i64 (D.ints (D.cell 3 (nth r5 1)))),.arr true (D.nil (D.cell 4 (nth r5 1))) (.ints .i64 (D.ints (D.cell 4 (nth r5 1))))]]).bind fun r7=>
 cond (decide (0<b8))
 (cond (!decide (b8=0))
 (cond (decide (Int.tmod (IntKind.wrap .i64 (c+1)) b8=0))
 ((go k impl_State_adapt [.ptr true [.int .i64 (D.toInt (D.cell 0 (nth r7 0))),.arr true (D.nil (D.cell 1 (nth r7 0))) (.r3 (D.r3 (D.cell 1 (nth r7 0)))),.arr true (D.nil (D.cell 2 (nth r7 0))) (.ints .i64 (D.ints (D.cell 2 (nth r7 0)))),.arr true (D.nil (D.cell 3 (nth r7 0))) (.ints .i64 (D.ints (D.cell 3 (nth r7 0)))),.arr true (D.nil (D.cell 4 (nth r7 0))) (.ints .i64 (D.ints (D.cell 4 (nth r7 0))))],.int .i64 b6,.int .i64 b7]).bind fun r8=>
 some [.agg [.int .i64 (D.toInt (D.cell 0 (nth r6 0))),.int .i64 (D.toInt (D.cell 1 (nth r6 0))),.int .i64 (D.toInt (D.cell 2 (nth r6 0))),.int .i64 (D.toInt (D.cell 3 (nth r6 0)))],.ptr true [.int .i64 (D.toInt (D.cell 0 (nth r8 0))),.arr true (D.nil (D.cell 1 (nth r8 0))) (.r3 (D.r3 (D.cell 1 (nth r8 0)))),.arr true (D.nil (D.cell 2 (nth r8 0))) (.ints .i64 (D.ints (D.cell 2 (nth r8 0)))),.arr true (D.nil (D.cell 3 (nth r8 0))) (.ints .i64 (D.ints (D.cell 3 (nth r8 0)))),.arr true (D.nil (D.cell 4 (nth r8 0))) (.ints .i64 (D.ints (D.cell 4 (nth r8 0))))]])
 (some [.agg [.int .i64 (D.toInt (D.cell 0 (nth r6 0))),.int .i64 (D.toInt (D.cell 1 (nth r6 0))),.int .i64 (D.toInt (D.cell 2 (nth r6 0))),.int .i64 (D.toInt (D.cell 3 (nth r6 0)))],.ptr true [.int .i64 (D.toInt (D.cell 0 (nth r7 0))),.arr true (D.nil (D.cell 1 (nth r7 0))) (.r3 (D.r3 (D.cell 1 (nth r7 0)))),.arr true (D.nil (D.cell 2 (nth r7 0))) (.ints .i64 (D.ints (D.cell 2 (nth r7 0)))),.arr true (D.nil (D.cell 3 (nth r7 0))) (.ints .i64 (D.ints (D.cell 3 (nth r7 0)))),.arr true (D.nil (D.cell 4 (nth r7 0))) (.ints .i64 (D.ints (D.cell 4 (nth r7 0))))]]))
 none)
 (some [.agg [.int .i64 (D.toInt (D.cell 0 (nth r6 0))),.int .i64 (D.toInt (D.cell 1 (nth r6 0))),.int .i64 (D.toInt (D.cell 2 (nth r6 0))),.int .i64 (D.toInt (D.cell 3 (nth r6 0)))],.ptr true [.int .i64 (D.toInt (D.cell 0 (nth r7 0))),.arr true (D.nil (D.cell 1 (nth r7 0))) (.r3 (D.r3 (D.cell 1 (nth r7 0)))),.arr true (D.nil (D.cell 2 (nth r7 0))) (.ints .i64 (D.ints (D.cell 2 (nth r7 0)))),.arr true (D.nil (D.cell 3 (nth r7 0))) (.ints .i64 (D.ints (D.cell 3 (nth r7 0)))),.arr true (D.nil (D.cell 4 (nth r7 0))) (.ints .i64 (D.ints (D.cell 4 (nth r7 0))))]]):=by kernel_rfl
theorem qjl (k:Nat)(a0 a1 a2 a3 b0 b1 b2 b3:Int):go (k+1) impl_LedgerAdd [.agg [.int .i64 a0,.int .i64 a1,.int .i64 a2,.int .i64 a3],.agg [.int .i64 b0,.int .i64 b1,.int .i64 b2,.int .i64 b3]]=
 some [.agg [.int .i64 (IntKind.wrap .i64 (a0+b0)),.int .i64 (IntKind.wrap .i64 (a1+b1)),.int .i64 (IntKind.wrap .i64 (a2+b2)),.int .i64 (IntKind.wrap .i64 (a3+b3))]]:=by kernel_rfl
theorem qni (k:Nat)(a0:Int)(a1z:Bool)(a1:L3)(a2z:Bool)(a2:LI)(a3z:Bool)(a3:LI)(a4z:Bool)(a4:LI)(b0 b1 b2:Int):go (k+1) spec_l13Apply [sV false a0 a1z a1 a2z a2 a3z a3 a4z a4,.agg [.int .i64 b0,.int .i64 b1,.int .i64 b2]]=
 (go k spec_l07Copy [sV false a0 a1z a1 a2z a2 a3z a3 a4z a4]).bind fun r0=>
 cond (decide (0≤IntKind.wrap .i64 (nI (List.length a2) - 1))&&decide (IntKind.wrap .i64 (nI (List.length a2) - 1)<nI (List.length a2)))
 (cond (decide (0≤IntKind.wrap .i64 (nI (List.length a2) - 1))&&decide (IntKind.wrap .i64 (nI (List.length a2) - 1)<nI (List.length a3)))
 (cond (decide (0≤IntKind.wrap .i64 (nI (List.length a2) - 1))&&decide (IntKind.wrap .i64 (nI (List.length a2) - 1)<nI (List.length a2)))
 ((go k spec_ShareOut [.int .i64 (List.getD a3 (Int.toNat (IntKind.wrap .i64 (nI (List.length a2) - 1))) 0),.int .i64 (IntKind.wrap .i64 (Int.tdiv (IntKind.wrap .i64 (List.getD a2 (Int.toNat (IntKind.wrap .i64 (nI (List.length a2) - 1))) 0*b2)) 1000)),.int .i64 (List.getD a2 (Int.toNat (IntKind.wrap .i64 (nI (List.length a2) - 1))) 0)]).bind fun r1=>
 cond (decide (0≤IntKind.wrap .i64 (nI (List.length a2) - 1))&&decide (IntKind.wrap .i64 (nI (List.length a2) - 1)<nI (List.length (D.ints (D.cell 2 (nth r0 0))))))
 (cond (decide (0≤IntKind.wrap .i64 (nI (List.length a2) - 1))&&decide (IntKind.wrap .i64 (nI (List.length a2) - 1)<nI (List.length (D.ints (D.cell 2 (nth r0 0))))))
 (cond (decide (0≤IntKind.wrap .i64 (nI (List.length a2) - 1))&&decide (IntKind.wrap .i64 (nI (List.length a2) - 1)<nI (List.length (D.ints (D.cell 3 (nth r0 0))))))
 (cond (decide (0≤IntKind.wrap .i64 (nI (List.length a2) - 1))&&decide (IntKind.wrap .i64 (nI (List.length a2) - 1)<nI (List.length (D.ints (D.cell 3 (nth r0 0))))))
 ((go k spec_l07Sum [.arr false (D.nil (D.cell 2 (nth r0 0))) (.ints .i64 (List.set (D.ints (D.cell 2 (nth r0 0))) (Int.toNat (IntKind.wrap .i64 (nI (List.length a2) - 1))) (IntKind.wrap .i64 (List.getD (D.ints (D.cell 2 (nth r0 0))) (Int.toNat (IntKind.wrap .i64 (nI (List.length a2) - 1))) 0 - IntKind.wrap .i64 (Int.tdiv (IntKind.wrap .i64 (List.getD a2 (Int.toNat (IntKind.wrap .i64 (nI (List.length a2) - 1))) 0*b2)) 1000)))))]).bind fun r2=>
 cond (decide (IntKind.wrap .i64 (D.toInt (nth r2 0)+b0)≤10000000))
 (cond (decide (0≤0)&&decide (0<nI (List.length (List.set (D.ints (D.cell 2 (nth r0 0))) (Int.toNat (IntKind.wrap .i64 (nI (List.length a2) - 1))) (IntKind.wrap .i64 (List.getD (D.ints (D.cell 2 (nth r0 0))) (Int.toNat (IntKind.wrap .i64 (nI (List.length a2) - 1))) 0 - IntKind.wrap .i64 (Int.tdiv (IntKind.wrap .i64 (List.getD a2 (Int.toNat (IntKind.wrap .i64 (nI (List.length a2) - 1))) 0*b2)) 1000)))))))
 (cond (decide (0≤0)&&decide (0<nI (List.length (List.set (D.ints (D.cell 2 (nth r0 0))) (Int.toNat (IntKind.wrap .i64 (nI (List.length a2) - 1))) (IntKind.wrap .i64 (List.getD (D.ints (D.cell 2 (nth r0 0))) (Int.toNat (IntKind.wrap .i64 (nI (List.length a2) - 1))) 0 - IntKind.wrap .i64 (Int.tdiv (IntKind.wrap .i64 (List.getD a2 (Int.toNat (IntKind.wrap .i64 (nI (List.length a2) - 1))) 0*b2)) 1000)))))))
 (cond (decide (0≤0)&&decide (0<nI (List.length (List.set (D.ints (D.cell 3 (nth r0 0))) (Int.toNat (IntKind.wrap .i64 (nI (List.length a2) - 1))) (IntKind.wrap .i64 (List.getD (D.ints (D.cell 3 (nth r0 0))) (Int.toNat (IntKind.wrap .i64 (nI (List.length a2) - 1))) 0 - D.toInt (nth r1 0)))))))
 (cond (decide (0≤0)&&decide (0<nI (List.length (List.set (D.ints (D.cell 3 (nth r0 0))) (Int.toNat (IntKind.wrap .i64 (nI (List.length a2) - 1))) (IntKind.wrap .i64 (List.getD (D.ints (D.cell 3 (nth r0 0))) (Int.toNat (IntKind.wrap .i64 (nI (List.length a2) - 1))) 0 - D.toInt (nth r1 0)))))))
 (some [.agg [.int .i64 (D.toInt (D.cell 0 (nth r0 0))),.arr true (D.nil (D.cell 1 (nth r0 0))) (.r3 (D.r3 (D.cell 1 (nth r0 0)))),.arr true (D.nil (D.cell 2 (nth r0 0))) (.ints .i64 (List.set (List.set (D.ints (D.cell 2 (nth r0 0))) (Int.toNat (IntKind.wrap .i64 (nI (List.length a2) - 1))) (IntKind.wrap .i64 (List.getD (D.ints (D.cell 2 (nth r0 0))) (Int.toNat (IntKind.wrap .i64 (nI (List.length a2) - 1))) 0 - IntKind.wrap .i64 (Int.tdiv (IntKind.wrap .i64 (List.getD a2 (Int.toNat (IntKind.wrap .i64 (nI (List.length a2) - 1))) 0*b2)) 1000)))) (Int.toNat 0) (IntKind.wrap .i64 (List.getD (List.set (D.ints (D.cell 2 (nth r0 0))) (Int.toNat (IntKind.wrap .i64 (nI (List.length a2) - 1))) (IntKind.wrap .i64 (List.getD (D.ints (D.cell 2 (nth r0 0))) (Int.toNat (IntKind.wrap .i64 (nI (List.length a2) - 1))) 0 - IntKind.wrap .i64 (Int.tdiv (IntKind.wrap .i64 (List.getD a2 (Int.toNat (IntKind.wrap .i64 (nI (List.length a2) - 1))) 0*b2)) 1000)))) (Int.toNat 0) 0+b0)))),.arr true (D.nil (D.cell 3 (nth r0 0))) (.ints .i64 (List.set (List.set (D.ints (D.cell 3 (nth r0 0))) (Int.toNat (IntKind.wrap .i64 (nI (List.length a2) - 1))) (IntKind.wrap .i64 (List.getD (D.ints (D.cell 3 (nth r0 0))) (Int.toNat (IntKind.wrap .i64 (nI (List.length a2) - 1))) 0 - D.toInt (nth r1 0)))) (Int.toNat 0) (IntKind.wrap .i64 (List.getD (List.set (D.ints (D.cell 3 (nth r0 0))) (Int.toNat (IntKind.wrap .i64 (nI (List.length a2) - 1))) (IntKind.wrap .i64 (List.getD (D.ints (D.cell 3 (nth r0 0))) (Int.toNat (IntKind.wrap .i64 (nI (List.length a2) - 1))) 0 - D.toInt (nth r1 0)))) (Int.toNat 0) 0+IntKind.wrap .i64 (b0*b1))))),.arr true (D.nil (D.cell 4 (nth r0 0))) (.ints .i64 (D.ints (D.cell 4 (nth r0 0))))],.agg [.int .i64 b0,.int .i64 (IntKind.wrap .i64 (Int.tdiv (IntKind.wrap .i64 (List.getD a2 (Int.toNat (IntKind.wrap .i64 (nI (List.length a2) - 1))) 0*b2)) 1000)),.int .i64 (IntKind.wrap .i64 (b0*b1)),.int .i64 (D.toInt (nth r1 0))]])
 none)
 none)
 none)
 none)
 (some [.agg [.int .i64 (D.toInt (D.cell 0 (nth r0 0))),.arr true (D.nil (D.cell 1 (nth r0 0))) (.r3 (D.r3 (D.cell 1 (nth r0 0)))),.arr true (D.nil (D.cell 2 (nth r0 0))) (.ints .i64 (List.set (D.ints (D.cell 2 (nth r0 0))) (Int.toNat (IntKind.wrap .i64 (nI (List.length a2) - 1))) (IntKind.wrap .i64 (List.getD (D.ints (D.cell 2 (nth r0 0))) (Int.toNat (IntKind.wrap .i64 (nI (List.length a2) - 1))) 0 - IntKind.wrap .i64 (Int.tdiv (IntKind.wrap .i64 (List.getD a2 (Int.toNat (IntKind.wrap .i64 (nI (List.length a2) - 1))) 0*b2)) 1000))))),.arr true (D.nil (D.cell 3 (nth r0 0))) (.ints .i64 (List.set (D.ints (D.cell 3 (nth r0 0))) (Int.toNat (IntKind.wrap .i64 (nI (List.length a2) - 1))) (IntKind.wrap .i64 (List.getD (D.ints (D.cell 3 (nth r0 0))) (Int.toNat (IntKind.wrap .i64 (nI (List.length a2) - 1))) 0 - D.toInt (nth r1 0))))),.arr true (D.nil (D.cell 4 (nth r0 0))) (.ints .i64 (D.ints (D.cell 4 (nth r0 0))))],.agg [.int .i64 0,.int .i64 (IntKind.wrap .i64 (Int.tdiv (IntKind.wrap .i64 (List.getD a2 (Int.toNat (IntKind.wrap .i64 (nI (List.length a2) - 1))) 0*b2)) 1000)),.int .i64 0,.int .i64 (D.toInt (nth r1 0))]]))
 none)
 none)
 none)
 none)
 none)
 none)
 none:=by kernel_rfl
theorem qnk (k:Nat)(a b:Int):go (k+1) spec_l14Part [.int .i64 a,.int .i64 b]=
 (go k spec_WidthOf [.int .i64 b]).bind fun r0=>
 some [.int .i64 (IntKind.wrap .i64 (Int.tdiv (IntKind.wrap .i64 (a*D.toInt (nth r0 0))) 16))]:=by kernel_rfl
def qzq (x0 x1 x2:Int)(z3:Bool)(l4:L3)(z5:Bool)(l6:LI)(z7:Bool)(l8:LI)(z9:Bool)(l10:LI)(x11:Int)(z12:Bool)(l13:L3)(z14:Bool)(l15:LI)(z16:Bool)(l17:LI)(z18:Bool)(l19:LI)(x20 x21 x22 x23 x24:Int)(z25:Bool)(l26:L3)(z27:Bool)(l28:LI)(z29:Bool)(l30:LI)(z31:Bool)(l32:LI)(x33:Int):St:=⟨fill 52 [(1,.int .i64 x0),(2,.ptr 4 0 0),(4,.ptr 9 0 0),(5,.ptr 10 0 0),(6,.ptr 15 0 0),(7,.int .i64 x1),(8,.int .i64 x2)],[],[.arr false z3 (.r3 l4),.arr false z5 (.ints .i64 l6),.arr false z7 (.ints .i64 l8),.arr false z9 (.ints .i64 l10),sB true 0 x11,.arr true z12 (.r3 l13),.arr true z14 (.ints .i64 l15),.arr true z16 (.ints .i64 l17),.arr true z18 (.ints .i64 l19),sB true 5 x20,.box true [.int .i64 x21,.int .i64 x22,.int .i64 x23,.int .i64 x24],.arr true z25 (.r3 l26),.arr true z27 (.ints .i64 l28),.arr true z29 (.ints .i64 l30),.arr true z31 (.ints .i64 l32),sB true 11 x33]⟩
theorem qnl (k:Nat)(a0:Int)(a1z:Bool)(a1:L3)(a2z:Bool)(a2:LI)(a3z:Bool)(a3:LI)(a4z:Bool)(a4:LI)(b:Int):go (k+1) spec_l14Rain [sV false a0 a1z a1 a2z a2 a3z a3 a4z a4,.int .i64 b]=
 (go k spec_l07Copy [sV false a0 a1z a1 a2z a2 a3z a3 a4z a4]).bind fun r0=>
 lp k spec_l14Rain [] [] 4 k (sA (qzq b 0 0 a1z a1 a2z a2 a3z a3 a4z a4 a0 true [] true [] true [] true [] 0 0 0 0 0) (nth r0 0)):=by kernel_rfl
theorem qr5 (k n:Nat)(fu:FU)(x0 x1 x2:Int)(z3:Bool)(l4:L3)(z5:Bool)(l6:LI)(z7:Bool)(l8:LI)(z9:Bool)(l10:LI)(x11:Int)(z12:Bool)(l13:L3)(z14:Bool)(l15:LI)(z16:Bool)(l17:LI)(z18:Bool)(l19:LI)(x20 x21 x22 x23 x24:Int)(z25:Bool)(l26:L3)(z27:Bool)(l28:LI)(z29:Bool)(l30:LI)(z31:Bool)(l32:LI)(x33:Int):lp k spec_l14Rain [] fu 4 (n+1) (qzq x0 x1 x2 z3 l4 z5 l6 z7 l8 z9 l10 x11 z12 l13 z14 l15 z16 l17 z18 l19 x20 x21 x22 x23 x24 z25 l26 z27 l28 z29 l30 z31 l32 x33)=
 cond (decide (x2<nI (List.length l6)))
 (cond (decide (0≤x2)&&decide (x2<nI (List.length l4)))
 ((go k spec_l14Part [.int .i64 x0,.int .i64 (Prod.fst (Prod.snd (List.getD l4 (Int.toNat x2) zz3)))]).bind fun r0=>
 cond (decide (0≤x2)&&decide (x2<nI (List.length l28)))
 (cond (decide (0≤x2)&&decide (x2<nI (List.length l28)))
 (lp k spec_l14Rain [] fu 4 n (qzq x0 (IntKind.wrap .i64 (x1+D.toInt (nth r0 0))) (IntKind.wrap .i64 (x2+1)) z3 l4 z5 l6 z7 l8 z9 l10 x11 z12 l13 z14 l15 z16 l17 z18 l19 x20 x21 x22 x23 x24 z25 l26 z27 (List.set l28 (Int.toNat x2) (IntKind.wrap .i64 (List.getD l28 (Int.toNat x2) 0+D.toInt (nth r0 0)))) z29 l30 z31 l32 x33))
 none)
 none)
 none)
 ((go k spec_l07Sum [.arr false z27 (.ints .i64 l28)]).bind fun r1=>
 cond (decide (10000000<D.toInt (nth r1 0)))
 ((go k spec_l07Copy [sV false x11 z3 l4 z5 l6 z7 l8 z9 l10]).bind fun r2=>
 some [sC true (nth r2 0),.agg [.int .i64 0,.int .i64 0,.int .i64 0,.int .i64 0]])
 (some [sV true x33 z25 l26 z27 l28 z29 l30 z31 l32,.agg [.int .i64 x1,.int .i64 0,.int .i64 0,.int .i64 0]])):=by kernel_rfl
def qzr (x0 x1:Int)(z2:Bool)(l3:L3)(z4:Bool)(l5:LI)(z6:Bool)(l7:LI)(z8:Bool)(l9:LI)(x10:Int)(z11:Bool)(l12:L3)(z13:Bool)(l14:LI)(z15:Bool)(l16:LI)(z17:Bool)(l18:LI)(x19 x20 x21 x22 x23:Int)(z24:Bool)(l25:L3)(z26:Bool)(l27:LI)(z28:Bool)(l29:LI)(z30:Bool)(l31:LI)(x32 x33 x34 x35 x36:Int):St:=⟨fill 82 [(1,.int .i64 x0),(2,.ptr 4 0 0),(4,.ptr 9 0 0),(5,.ptr 10 0 0),(6,.ptr 15 0 0),(7,.ptr 16 0 0),(8,.int .i64 x1)],[],[.arr false z2 (.r3 l3),.arr false z4 (.ints .i64 l5),.arr false z6 (.ints .i64 l7),.arr false z8 (.ints .i64 l9),sB true 0 x10,.arr true z11 (.r3 l12),.arr true z13 (.ints .i64 l14),.arr true z15 (.ints .i64 l16),.arr true z17 (.ints .i64 l18),sB true 5 x19,.box true [.int .i64 x20,.int .i64 x21,.int .i64 x22,.int .i64 x23],.arr true z24 (.r3 l25),.arr true z26 (.ints .i64 l27),.arr true z28 (.ints .i64 l29),.arr true z30 (.ints .i64 l31),sB true 11 x32,.box true [.int .i64 x33,.int .i64 x34,.int .i64 x35,.int .i64 x36]]⟩
theorem qnm (k:Nat)(a0:Int)(a1z:Bool)(a1:L3)(a2z:Bool)(a2:LI)(a3z:Bool)(a3:LI)(a4z:Bool)(a4:LI)(b:Int):go (k+1) spec_l14Soak [sV false a0 a1z a1 a2z a2 a3z a3 a4z a4,.int .i64 b]=
 (go k spec_l07Copy [sV false a0 a1z a1 a2z a2 a3z a3 a4z a4]).bind fun r0=>
 lp k spec_l14Soak [] [] 4 k (sA (qzr b 0 a1z a1 a2z a2 a3z a3 a4z a4 a0 true [] true [] true [] true [] 0 0 0 0 0) (nth r0 0) 0 0 0 0):=by kernel_rfl
theorem qr6 (k n:Nat)(fu:FU)(x0 x1:Int)(z2:Bool)(l3:L3)(z4:Bool)(l5:LI)(z6:Bool)(l7:LI)(z8:Bool)(l9:LI)(x10:Int)(z11:Bool)(l12:L3)(z13:Bool)(l14:LI)(z15:Bool)(l16:LI)(z17:Bool)(l18:LI)(x19 x20 x21 x22 x23:Int)(z24:Bool)(l25:L3)(z26:Bool)(l27:LI)(z28:Bool)(l29:LI)(z30:Bool)(l31:LI)(x32 x33 x34 x35 x36:Int):lp k spec_l14Soak [] fu 4 (n+1) (qzr x0 x1 z2 l3 z4 l5 z6 l7 z8 l9 x10 z11 l12 z13 l14 z15 l16 z17 l18 x19 x20 x21 x22 x23 z24 l25 z26 l27 z28 l29 z30 l31 x32 x33 x34 x35 x36)=
 cond (decide (x1<nI (List.length l5)))
 (cond (decide (0≤x1)&&decide (x1<nI (List.length l3)))
 ((go k spec_l14Part [.int .i64 x0,.int .i64 (Prod.fst (Prod.snd (List.getD l3 (Int.toNat x1) zz3)))]).bind fun r0=>
 cond (decide (0≤x1)&&decide (x1<nI (List.length l5)))
 (cond (decide (0≤x1)&&decide (x1<nI (List.length l7)))
 (cond (decide (0≤x1)&&decide (x1<nI (List.length l5)))
 ((go k spec_ShareOut [.int .i64 (List.getD l7 (Int.toNat x1) 0),.int .i64 (if List.getD l5 (Int.toNat x1) 0<D.toInt (nth r0 0) then List.getD l5 (Int.toNat x1) 0 else D.toInt (nth r0 0)),.int .i64 (List.getD l5 (Int.toNat x1) 0)]).bind fun r1=>
 cond (decide (0≤x1)&&decide (x1<nI (List.length l27)))
 (cond (decide (0≤x1)&&decide (x1<nI (List.length l27)))
 (cond (decide (0≤x1)&&decide (x1<nI (List.length l29)))
 (cond (decide (0≤x1)&&decide (x1<nI (List.length l29)))
 (lp k spec_l14Soak [] fu 4 n (qzr x0 (IntKind.wrap .i64 (x1+1)) z2 l3 z4 l5 z6 l7 z8 l9 x10 z11 l12 z13 l14 z15 l16 z17 l18 x19 x20 x21 x22 x23 z24 l25 z26 (List.set l27 (Int.toNat x1) (IntKind.wrap .i64 (List.getD l27 (Int.toNat x1) 0 - if List.getD l5 (Int.toNat x1) 0<D.toInt (nth r0 0) then List.getD l5 (Int.toNat x1) 0 else D.toInt (nth r0 0)))) z28 (List.set l29 (Int.toNat x1) (IntKind.wrap .i64 (List.getD l29 (Int.toNat x1) 0 - D.toInt (nth r1 0)))) z30 l31 x32 x33 (IntKind.wrap .i64 (x34+if List.getD l5 (Int.toNat x1) 0<D.toInt (nth r0 0) then List.getD l5 (Int.toNat x1) 0 else D.toInt (nth r0 0))) x35 (IntKind.wrap .i64 (x36+D.toInt (nth r1 0)))))
 none)
 none)
 none)
 none)
 none)
 none)
 none)
 none)
 (some [sV true x32 z24 l25 z26 l27 z28 l29 z30 l31,.agg [.int .i64 x33,.int .i64 x34,.int .i64 x35,.int .i64 x36]]):=by kernel_rfl
def qzs (x0 x1:Int)(z2:Bool)(l3:L3)(z4:Bool)(l5:LI)(z6:Bool)(l7:LI)(z8:Bool)(l9:LI)(x10:Int)(z11:Bool)(l12:L3)(z13:Bool)(l14:LI)(z15:Bool)(l16:LI)(z17:Bool)(l18:LI)(x19 x20 x21 x22 x23:Int)(z24:Bool)(l25:L3)(z26:Bool)(l27:LI)(z28:Bool)(l29:LI)(z30:Bool)(l31:LI)(x32 x33 x34 x35 x36:Int):St:=⟨fill 46 [(1,.int .i64 x0),(2,.ptr 4 0 0),(4,.ptr 9 0 0),(5,.ptr 10 0 0),(6,.ptr 15 0 0),(7,.ptr 16 0 0),(8,.int .i64 x1)],[],[.arr false z2 (.r3 l3),.arr false z4 (.ints .i64 l5),.arr false z6 (.ints .i64 l7),.arr false z8 (.ints .i64 l9),sB true 0 x10,.arr true z11 (.r3 l12),.arr true z13 (.ints .i64 l14),.arr true z15 (.ints .i64 l16),.arr true z17 (.ints .i64 l18),sB true 5 x19,.box true [.int .i64 x20,.int .i64 x21,.int .i64 x22,.int .i64 x23],.arr true z24 (.r3 l25),.arr true z26 (.ints .i64 l27),.arr true z28 (.ints .i64 l29),.arr true z30 (.ints .i64 l31),sB true 11 x32,.box true [.int .i64 x33,.int .i64 x34,.int .i64 x35,.int .i64 x36]]⟩
theorem qnn (k:Nat)(a0:Int)(a1z:Bool)(a1:L3)(a2z:Bool)(a2:LI)(a3z:Bool)(a3:LI)(a4z:Bool)(a4:LI)(b:Int):go (k+1) spec_l15Decay [sV false a0 a1z a1 a2z a2 a3z a3 a4z a4,.int .i64 b]=
 (go k spec_l07Copy [sV false a0 a1z a1 a2z a2 a3z a3 a4z a4]).bind fun r0=>
 lp k spec_l15Decay [] [] 4 k (sA (qzs b 0 a1z a1 a2z a2 a3z a3 a4z a4 a0 true [] true [] true [] true [] 0 0 0 0 0) (nth r0 0) 0 0 0 0):=by kernel_rfl
theorem qr7 (k n:Nat)(fu:FU)(x0 x1:Int)(z2:Bool)(l3:L3)(z4:Bool)(l5:LI)(z6:Bool)(l7:LI)(z8:Bool)(l9:LI)(x10:Int)(z11:Bool)(l12:L3)(z13:Bool)(l14:LI)(z15:Bool)(l16:LI)(z17:Bool)(l18:LI)(x19 x20 x21 x22 x23:Int)(z24:Bool)(l25:L3)(z26:Bool)(l27:LI)(z28:Bool)(l29:LI)(z30:Bool)(l31:LI)(x32 x33 x34 x35 x36:Int):lp k spec_l15Decay [] fu 4 (n+1) (qzs x0 x1 z2 l3 z4 l5 z6 l7 z8 l9 x10 z11 l12 z13 l14 z15 l16 z17 l18 x19 x20 x21 x22 x23 z24 l25 z26 l27 z28 l29 z30 l31 x32 x33 x34 x35 x36)=
 cond (decide (x1<nI (List.length l7)))
 (cond (decide (0≤x1)&&decide (x1<nI (List.length l7)))
 (cond (decide (0≤x1)&&decide (x1<nI (List.length l29)))
 (cond (decide (0≤x1)&&decide (x1<nI (List.length l29)))
 (lp k spec_l15Decay [] fu 4 n (qzs x0 (IntKind.wrap .i64 (x1+1)) z2 l3 z4 l5 z6 l7 z8 l9 x10 z11 l12 z13 l14 z15 l16 z17 l18 x19 x20 x21 x22 x23 z24 l25 z26 l27 z28 (List.set l29 (Int.toNat x1) (IntKind.wrap .i64 (List.getD l29 (Int.toNat x1) 0 - IntKind.wrap .i64 (Int.tdiv (IntKind.wrap .i64 (List.getD l7 (Int.toNat x1) 0*x0)) 1000)))) z30 l31 x32 x33 x34 x35 (IntKind.wrap .i64 (x36+IntKind.wrap .i64 (Int.tdiv (IntKind.wrap .i64 (List.getD l7 (Int.toNat x1) 0*x0)) 1000)))))
 none)
 none)
 none)
 (some [sV true x32 z24 l25 z26 l27 z28 l29 z30 l31,.agg [.int .i64 x33,.int .i64 x34,.int .i64 x35,.int .i64 x36]]):=by kernel_rfl
def qzw (x0 x1 x2 x3 x4 x5 x6 x7 x8 x9 x10:Int)(z11:Bool)(l12:L3)(z13:Bool)(l14:LI)(z15:Bool)(l16:LI)(z17:Bool)(l18:LI)(x19 x20 x21 x22 x23:Int)(z24:Bool)(l25:L3)(z26:Bool)(l27:LI)(z28:Bool)(l29:LI)(z30:Bool)(l31:LI)(x32 x33 x34 x35 x36:Int):St:=⟨fill 79 [(2,.int .i64 x0),(4,.ptr 0 0 0),(6,.ptr 5 0 0),(7,.ptr 6 0 0),(8,.ptr 11 0 0),(9,.ptr 12 0 0),(16,.int .i64 x1)],[],[.box true [.int .i64 x2,.int .i64 x3,.int .i64 x4,.int .i64 x5,.int .i64 x6,.int .i64 x7,.int .i64 x8,.int .i64 x9,.int .i64 x10],.arr true z11 (.r3 l12),.arr true z13 (.ints .i64 l14),.arr true z15 (.ints .i64 l16),.arr true z17 (.ints .i64 l18),sB true 1 x19,.box true [.int .i64 x20,.int .i64 x21,.int .i64 x22,.int .i64 x23],.arr true z24 (.r3 l25),.arr true z26 (.ints .i64 l27),.arr true z28 (.ints .i64 l29),.arr true z30 (.ints .i64 l31),sB true 7 x32,.box true [.int .i64 x33,.int .i64 x34,.int .i64 x35,.int .i64 x36]]⟩
theorem qnr (k:Nat)(a0:Int)(a1z:Bool)(a1:L3)(a2z:Bool)(a2:LI)(a3z:Bool)(a3:LI)(a4z:Bool)(a4:LI)(b0 b1 b2 b3 b4 b5 b6 b7 b8 c:Int):go (k+1) spec_l18Macro [sV false a0 a1z a1 a2z a2 a3z a3 a4z a4,.agg [.int .i64 b0,.int .i64 b1,.int .i64 b2,.int .i64 b3,.int .i64 b4,.int .i64 b5,.int .i64 b6,.int .i64 b7,.int .i64 b8],.int .i64 c]=
 (go k spec_l13Apply [sV false a0 a1z a1 a2z a2 a3z a3 a4z a4,.agg [.int .i64 b0,.int .i64 b1,.int .i64 b2]]).bind fun r0=>
 (go k spec_l14Rain [sC false (nth r0 0),.int .i64 b3]).bind fun r1=>
 (go k spec_l14Soak [sC false (nth r1 0),.int .i64 b4]).bind fun r2=>
 (go k spec_l15Decay [sC false (nth r2 0),.int .i64 b5]).bind fun r3=>
 (go k spec_LedgerAdd [.agg [.int .i64 (D.toInt (D.cell 0 (nth r0 1))),.int .i64 (D.toInt (D.cell 1 (nth r0 1))),.int .i64 (D.toInt (D.cell 2 (nth r0 1))),.int .i64 (D.toInt (D.cell 3 (nth r0 1)))],.agg [.int .i64 (D.toInt (D.cell 0 (nth r1 1))),.int .i64 (D.toInt (D.cell 1 (nth r1 1))),.int .i64 (D.toInt (D.cell 2 (nth r1 1))),.int .i64 (D.toInt (D.cell 3 (nth r1 1)))]]).bind fun r4=>
 (go k spec_LedgerAdd [.agg [.int .i64 (D.toInt (D.cell 0 (nth r2 1))),.int .i64 (D.toInt (D.cell 1 (nth r2 1))),.int .i64 (D.toInt (D.cell 2 (nth r2 1))),.int .i64 (D.toInt (D.cell 3 (nth r2 1)))],.agg [.int .i64 (D.toInt (D.cell 0 (nth r3 1))),.int .i64 (D.toInt (D.cell 1 (nth r3 1))),.int .i64 (D.toInt (D.cell 2 (nth r3 1))),.int .i64 (D.toInt (D.cell 3 (nth r3 1)))]]).bind fun r5=>
 (go k spec_LedgerAdd [.agg [.int .i64 (D.toInt (D.cell 0 (nth r4 0))),.int .i64 (D.toInt (D.cell 1 (nth r4 0))),.int .i64 (D.toInt (D.cell 2 (nth r4 0))),.int .i64 (D.toInt (D.cell 3 (nth r4 0)))],.agg [.int .i64 (D.toInt (D.cell 0 (nth r5 0))),.int .i64 (D.toInt (D.cell 1 (nth r5 0))),.int .i64 (D.toInt (D.cell 2 (nth r5 0))),.int .i64 (D.toInt (D.cell 3 (nth r5 0)))]]).bind fun r6=>
 lp k spec_l18Macro [] [] 8 k (sA (qzw c 0 b0 b1 b2 b3 b4 b5 b6 b7 b8 true [] true [] true [] true [] 0 0 0 0 0) (nth r3 0) (D.toInt (D.cell 0 (nth r6 0))) (D.toInt (D.cell 1 (nth r6 0))) (D.toInt (D.cell 2 (nth r6 0))) (D.toInt (D.cell 3 (nth r6 0)))):=by kernel_rfl
theorem qsb (k n:Nat)(fu:FU)(x0 x1 x2 x3 x4 x5 x6 x7 x8 x9 x10:Int)(z11:Bool)(l12:L3)(z13:Bool)(l14:LI)(z15:Bool)(l16:LI)(z17:Bool)(l18:LI)(x19 x20 x21 x22 x23:Int)(z24:Bool)(l25:L3)(z26:Bool)(l27:LI)(z28:Bool)(l29:LI)(z30:Bool)(l31:LI)(x32 x33 x34 x35 x36:Int):lp k spec_l18Macro [] fu 8 (n+1) (qzw x0 x1 x2 x3 x4 x5 x6 x7 x8 x9 x10 z11 l12 z13 l14 z15 l16 z17 l18 x19 x20 x21 x22 x23 z24 l25 z26 l27 z28 l29 z30 l31 x32 x33 x34 x35 x36)=
 cond (decide (x1<16))
 ((go k spec_l11Step [sV false x32 z24 l25 z26 l27 z28 l29 z30 l31,.int .i64 x1]).bind fun r0=>
 lp k spec_l18Macro [] fu 8 n (sA (qzw x0 (IntKind.wrap .i64 (x1+1)) x2 x3 x4 x5 x6 x7 x8 x9 x10 z11 l12 z13 l14 z15 l16 z17 l18 x19 x20 x21 x22 x23) (nth r0 0) x33 x34 x35 x36))
 (cond (decide (0<x10))
 (cond (!decide (x10=0))
 (cond (decide (Int.tmod (IntKind.wrap .i64 (x0+1)) x10=0))
 ((go k spec_l17Adapt [sV false x32 z24 l25 z26 l27 z28 l29 z30 l31,.int .i64 x8,.int .i64 x9]).bind fun r1=>
 some [sC true (nth r1 0),.agg [.int .i64 x33,.int .i64 x34,.int .i64 x35,.int .i64 x36]])
 (some [sV true x32 z24 l25 z26 l27 z28 l29 z30 l31,.agg [.int .i64 x33,.int .i64 x34,.int .i64 x35,.int .i64 x36]]))
 none)
 (some [sV true x32 z24 l25 z26 l27 z28 l29 z30 l31,.agg [.int .i64 x33,.int .i64 x34,.int .i64 x35,.int .i64 x36]])):=by kernel_rfl

end Go.Proofs.YtjfjniebmdafeaaGreatDoor
end
section
namespace Go.Proofs.YtjfjniebmdafeaaGreatDoor
open Go.Ev
theorem qnu (k:Nat)(a0:Int)(a1z:Bool)(a1:L3)(a2z:Bool)(a2:LI)(a3z:Bool)(a3:LI)(a4z:Bool)(a4:LI)(a5 a6 a7 a8 a9 a10 a11 a12 a13 a14 a15 a16 a17 a18 a19 a20:Int):go (k+1) spec_l36Copy [wV false a0 a1z a1 a2z a2 a3z a3 a4z a4 a5 a6 a7 a8 a9 a10 a11 a12 a13 a14 a15 a16 a17 a18 a19 a20]=
 (go k spec_l07Copy [sV false a0 a1z a1 a2z a2 a3z a3 a4z a4]).bind fun r0=>
 some [.agg [.int .i64 (D.toInt (D.cell 0 (nth r0 0))),.arr true (D.nil (D.cell 1 (nth r0 0))) (.r3 (D.r3 (D.cell 1 (nth r0 0)))),.arr true (D.nil (D.cell 2 (nth r0 0))) (.ints .i64 (D.ints (D.cell 2 (nth r0 0)))),.arr true (D.nil (D.cell 3 (nth r0 0))) (.ints .i64 (D.ints (D.cell 3 (nth r0 0)))),.arr true (D.nil (D.cell 4 (nth r0 0))) (.ints .i64 (D.ints (D.cell 4 (nth r0 0)))),.int .i64 a5,.int .i64 a6,.int .i64 a7,.int .i64 a8,.int .i64 a9,.int .i64 a10,.int .i64 a11,.int .i64 a12,.int .i64 a13,.int .i64 a14,.int .i64 a15,.int .i64 a16,.int .i64 a17,.int .i64 a18,.int .i64 a19,.int .i64 a20]]:=by kernel_rfl
theorem qk4 (k:Nat)(a0:Int)(a1z:Bool)(a1:L3)(a2z:Bool)(a2:LI)(a3z:Bool)(a3:LI)(a4z:Bool)(a4:LI)(a5 a6 a7 a8 a9 a10 a11 a12 a13 a14 a15 a16 a17 a18 a19 a20:Int):go (k+1) impl_copyWorld [wV false a0 a1z a1 a2z a2 a3z a3 a4z a4 a5 a6 a7 a8 a9 a10 a11 a12 a13 a14 a15 a16 a17 a18 a19 a20]=
 (go k impl_copyState [sV false a0 a1z a1 a2z a2 a3z a3 a4z a4]).bind fun r0=>
 some [.agg [.int .i64 (D.toInt (D.cell 0 (nth r0 0))),.arr true (D.nil (D.cell 1 (nth r0 0))) (.r3 (D.r3 (D.cell 1 (nth r0 0)))),.arr true (D.nil (D.cell 2 (nth r0 0))) (.ints .i64 (D.ints (D.cell 2 (nth r0 0)))),.arr true (D.nil (D.cell 3 (nth r0 0))) (.ints .i64 (D.ints (D.cell 3 (nth r0 0)))),.arr true (D.nil (D.cell 4 (nth r0 0))) (.ints .i64 (D.ints (D.cell 4 (nth r0 0)))),.int .i64 a5,.int .i64 a6,.int .i64 a7,.int .i64 a8,.int .i64 a9,.int .i64 a10,.int .i64 a11,.int .i64 a12,.int .i64 a13,.int .i64 a14,.int .i64 a15,.int .i64 a16,.int .i64 a17,.int .i64 a18,.int .i64 a19,.int .i64 a20]]:=by kernel_rfl
theorem qme (k:Nat)(a0 a1 a2 a3 b0 b1 b2 b3:Int):go (k+1) spec_LedgerAdd [.agg [.int .i64 a0,.int .i64 a1,.int .i64 a2,.int .i64 a3],.agg [.int .i64 b0,.int .i64 b1,.int .i64 b2,.int .i64 b3]]=
 some [.agg [.int .i64 (IntKind.wrap .i64 (a0+b0)),.int .i64 (IntKind.wrap .i64 (a1+b1)),.int .i64 (IntKind.wrap .i64 (a2+b2)),.int .i64 (IntKind.wrap .i64 (a3+b3))]]:=by kernel_rfl
theorem ql2 (k:Nat)(a0:Int)(a1z:Bool)(a1:L3)(a2z:Bool)(a2:LI)(a3z:Bool)(a3:LI)(a4z:Bool)(a4:LI)(a5 a6 a7 a8 a9 a10 a11 a12 a13 a14 a15 a16 a17 a18 a19 a20 b c d:Int):go (k+1) spec_Drop [wV false a0 a1z a1 a2z a2 a3z a3 a4z a4 a5 a6 a7 a8 a9 a10 a11 a12 a13 a14 a15 a16 a17 a18 a19 a20,.int .i64 b,.int .i64 c,.int .i64 d]=
 (go k spec_l36Copy [wV false a0 a1z a1 a2z a2 a3z a3 a4z a4 a5 a6 a7 a8 a9 a10 a11 a12 a13 a14 a15 a16 a17 a18 a19 a20]).bind fun r0=>
 (go k spec_WorldOk [wV false a0 a1z a1 a2z a2 a3z a3 a4z a4 a5 a6 a7 a8 a9 a10 a11 a12 a13 a14 a15 a16 a17 a18 a19 a20]).bind fun r1=>
 cond (!bit (nth r1 0))
 (some [wC true (nth r0 0),.bool false])
 ((go k spec_l01In [.int .i64 c,.int .i64 1,.int .i64 10000]).bind fun r2=>
 cond (!bit (nth r2 0))
 (some [wC true (nth r0 0),.bool false])
 ((go k spec_l01In [.int .i64 d,.int .i64 0,.int .i64 1000]).bind fun r3=>
 cond (!bit (nth r3 0))
 (some [wC true (nth r0 0),.bool false])
 ((go k spec_l07Sum [.arr false a2z (.ints .i64 a2)]).bind fun r4=>
 cond (decide (10000000<IntKind.wrap .i64 (D.toInt (nth r4 0)+c)))
 (some [wC true (nth r0 0),.bool false])
 ((go k spec_LeafAt [.agg [.int .i64 a0,.arr false a1z (.r3 a1)],.int .i64 b]).bind fun r5=>
 cond (decide (D.toInt (nth r5 0)<0))
 (some [wC true (nth r0 0),.bool false])
 (cond (decide (0≤D.toInt (nth r5 0))&&decide (D.toInt (nth r5 0)<nI (List.length (D.ints (D.cell 2 (nth r0 0))))))
 (cond (decide (0≤D.toInt (nth r5 0))&&decide (D.toInt (nth r5 0)<nI (List.length (D.ints (D.cell 2 (nth r0 0))))))
 (cond (decide (0≤D.toInt (nth r5 0))&&decide (D.toInt (nth r5 0)<nI (List.length (D.ints (D.cell 3 (nth r0 0))))))
 (cond (decide (0≤D.toInt (nth r5 0))&&decide (D.toInt (nth r5 0)<nI (List.length (D.ints (D.cell 3 (nth r0 0))))))
 ((go k spec_LedgerAdd [.agg [.int .i64 (D.toInt (D.cell 15 (nth r0 0))),.int .i64 (D.toInt (D.cell 16 (nth r0 0))),.int .i64 (D.toInt (D.cell 17 (nth r0 0))),.int .i64 (D.toInt (D.cell 18 (nth r0 0)))],.agg [.int .i64 c,.int .i64 0,.int .i64 (IntKind.wrap .i64 (c*d)),.int .i64 0]]).bind fun r6=>
 some [.agg [.int .i64 (D.toInt (D.cell 0 (nth r0 0))),.arr true (D.nil (D.cell 1 (nth r0 0))) (.r3 (D.r3 (D.cell 1 (nth r0 0)))),.arr true (D.nil (D.cell 2 (nth r0 0))) (.ints .i64 (List.set (D.ints (D.cell 2 (nth r0 0))) (Int.toNat (D.toInt (nth r5 0))) (IntKind.wrap .i64 (List.getD (D.ints (D.cell 2 (nth r0 0))) (Int.toNat (D.toInt (nth r5 0))) 0+c)))),.arr true (D.nil (D.cell 3 (nth r0 0))) (.ints .i64 (List.set (D.ints (D.cell 3 (nth r0 0))) (Int.toNat (D.toInt (nth r5 0))) (IntKind.wrap .i64 (List.getD (D.ints (D.cell 3 (nth r0 0))) (Int.toNat (D.toInt (nth r5 0))) 0+IntKind.wrap .i64 (c*d))))),.arr true (D.nil (D.cell 4 (nth r0 0))) (.ints .i64 (D.ints (D.cell 4 (nth r0 0)))),.int .i64 (D.toInt (D.cell 5 (nth r0 0))),.int .i64 (D.toInt (D.cell 6 (nth r0 0))),.int .i64 (D.toInt (D.cell 7 (nth r0 0))),.int .i64 (D.toInt (D.cell 8 (nth r0 0))),.int .i64 (D.toInt (D.cell 9 (nth r0 0))),.int .i64 (D.toInt (D.cell 10 (nth r0 0))),.int .i64 (D.toInt (D.cell 11 (nth r0 0))),.int .i64 (D.toInt (D.cell 12 (nth r0 0))),.int .i64 (D.toInt (D.cell 13 (nth r0 0))),.int .i64 (D.toInt (D.cell 14 (nth r0 0))),.int .i64 (D.toInt (D.cell 0 (nth r6 0))),.int .i64 (D.toInt (D.cell 1 (nth r6 0))),.int .i64 (D.toInt (D.cell 2 (nth r6 0))),.int .i64 (D.toInt (D.cell 3 (nth r6 0))),.int .i64 (D.toInt (D.cell 19 (nth r0 0))),.int .i64 (D.toInt (D.cell 20 (nth r0 0)))],.bool true])
 none)
 none)
 none)
 none))))):=by kernel_rfl
theorem qi9 (k:Nat)(a0:Int)(a1z:Bool)(a1:L3)(a2z:Bool)(a2:LI)(a3z:Bool)(a3:LI)(a4z:Bool)(a4:LI)(a5 a6 a7 a8 a9 a10 a11 a12 a13 a14 a15 a16 a17 a18 a19 a20 b c d:Int):go (k+1) impl_Drop [wV false a0 a1z a1 a2z a2 a3z a3 a4z a4 a5 a6 a7 a8 a9 a10 a11 a12 a13 a14 a15 a16 a17 a18 a19 a20,.int .i64 b,.int .i64 c,.int .i64 d]=
 (go k impl_copyWorld [wV false a0 a1z a1 a2z a2 a3z a3 a4z a4 a5 a6 a7 a8 a9 a10 a11 a12 a13 a14 a15 a16 a17 a18 a19 a20]).bind fun r0=>
 (go k impl_LeafAt [.agg [.int .i64 a0,.arr false a1z (.r3 a1)],.int .i64 b]).bind fun r1=>
 (go k impl_WorldOk [wV false a0 a1z a1 a2z a2 a3z a3 a4z a4 a5 a6 a7 a8 a9 a10 a11 a12 a13 a14 a15 a16 a17 a18 a19 a20]).bind fun r2=>
 cond (!bit (nth r2 0))
 (some [wC true (nth r0 0),.bool false])
 (cond (decide (D.toInt (nth r1 0)<0))
 (some [wC true (nth r0 0),.bool false])
 ((go k impl_within [.int .i64 c,.int .i64 1,.int .i64 10000]).bind fun r3=>
 cond (!bit (nth r3 0))
 (some [wC true (nth r0 0),.bool false])
 ((go k impl_within [.int .i64 d,.int .i64 0,.int .i64 1000]).bind fun r4=>
 cond (!bit (nth r4 0))
 (some [wC true (nth r0 0),.bool false])
 ((go k impl_sum [.arr false a2z (.ints .i64 a2)]).bind fun r5=>
 cond (decide (10000000<IntKind.wrap .i64 (D.toInt (nth r5 0)+c)))
 (some [wC true (nth r0 0),.bool false])
 (cond (decide (0≤D.toInt (nth r1 0))&&decide (D.toInt (nth r1 0)<nI (List.length (D.ints (D.cell 2 (nth r0 0))))))
 (cond (decide (0≤D.toInt (nth r1 0))&&decide (D.toInt (nth r1 0)<nI (List.length (D.ints (D.cell 2 (nth r0 0))))))
 (cond (decide (0≤D.toInt (nth r1 0))&&decide (D.toInt (nth r1 0)<nI (List.length (D.ints (D.cell 3 (nth r0 0))))))
 (cond (decide (0≤D.toInt (nth r1 0))&&decide (D.toInt (nth r1 0)<nI (List.length (D.ints (D.cell 3 (nth r0 0))))))
 (some [.agg [.int .i64 (D.toInt (D.cell 0 (nth r0 0))),.arr true (D.nil (D.cell 1 (nth r0 0))) (.r3 (D.r3 (D.cell 1 (nth r0 0)))),.arr true (D.nil (D.cell 2 (nth r0 0))) (.ints .i64 (List.set (D.ints (D.cell 2 (nth r0 0))) (Int.toNat (D.toInt (nth r1 0))) (IntKind.wrap .i64 (List.getD (D.ints (D.cell 2 (nth r0 0))) (Int.toNat (D.toInt (nth r1 0))) 0+c)))),.arr true (D.nil (D.cell 3 (nth r0 0))) (.ints .i64 (List.set (D.ints (D.cell 3 (nth r0 0))) (Int.toNat (D.toInt (nth r1 0))) (IntKind.wrap .i64 (List.getD (D.ints (D.cell 3 (nth r0 0))) (Int.toNat (D.toInt (nth r1 0))) 0+IntKind.wrap .i64 (c*d))))),.arr true (D.nil (D.cell 4 (nth r0 0))) (.ints .i64 (D.ints (D.cell 4 (nth r0 0)))),.int .i64 (D.toInt (D.cell 5 (nth r0 0))),.int .i64 (D.toInt (D.cell 6 (nth r0 0))),.int .i64 (D.toInt (D.cell 7 (nth r0 0))),.int .i64 (D.toInt (D.cell 8 (nth r0 0))),.int .i64 (D.toInt (D.cell 9 (nth r0 0))),.int .i64 (D.toInt (D.cell 10 (nth r0 0))),.int .i64 (D.toInt (D.cell 11 (nth r0 0))),.int .i64 (D.toInt (D.cell 12 (nth r0 0))),.int .i64 (D.toInt (D.cell 13 (nth r0 0))),.int .i64 (D.toInt (D.cell 14 (nth r0 0))),.int .i64 (IntKind.wrap .i64 (D.toInt (D.cell 15 (nth r0 0))+c)),.int .i64 (D.toInt (D.cell 16 (nth r0 0))),.int .i64 (IntKind.wrap .i64 (D.toInt (D.cell 17 (nth r0 0))+IntKind.wrap .i64 (c*d))),.int .i64 (D.toInt (D.cell 18 (nth r0 0))),.int .i64 (D.toInt (D.cell 19 (nth r0 0))),.int .i64 (D.toInt (D.cell 20 (nth r0 0)))],.bool true])
 none)
 none)
 none)
 none))))):=by kernel_rfl

end Go.Proofs.YtjfjniebmdafeaaGreatDoor
end
section
namespace Go.Proofs.YtjfjniebmdafeaaGreatDoor
open Go.Ev
def qyk (x0:Int)(z1:Bool)(l2:L3)(z3:Bool)(l4:LI)(z5:Bool)(l6:LI)(z7:Bool)(l8:LI)(x9:Int):St:=⟨fill 18 [(0,.ptr 4 0 0),(2,.int .i64 x0)],[.ptr 4 0 0],[.arr true z1 (.r3 l2),.arr true z3 (.ints .i64 l4),.arr true z5 (.ints .i64 l6),.arr true z7 (.ints .i64 l8),sB true 0 x9]⟩
theorem qka (k:Nat)(a0:Int)(a1z:Bool)(a1:L3)(a2z:Bool)(a2:LI)(a3z:Bool)(a3:LI)(a4z:Bool)(a4:LI):go (k+1) impl_State_balance [.ptr true [.int .i64 a0,.arr true a1z (.r3 a1),.arr true a2z (.ints .i64 a2),.arr true a3z (.ints .i64 a3),.arr true a4z (.ints .i64 a4)]]=
 (go k impl_Mesh_toRefine [.agg [.int .i64 a0,.arr false a1z (.r3 a1)]]).bind fun r0=>
 lp k impl_State_balance [.ptr true [.int .i64 a0,.arr true a1z (.r3 a1),.arr true a2z (.ints .i64 a2),.arr true a3z (.ints .i64 a3),.arr true a4z (.ints .i64 a4)]] [] 1 k (qyk (D.toInt (nth r0 0)) a1z a1 a2z a2 a3z a3 a4z a4 a0):=by kernel_rfl
theorem qqz (k n:Nat)(fu:FU)(a0:Int)(a1z:Bool)(a1:L3)(a2z:Bool)(a2:LI)(a3z:Bool)(a3:LI)(a4z:Bool)(a4:LI)(x0:Int)(z1:Bool)(l2:L3)(z3:Bool)(l4:LI)(z5:Bool)(l6:LI)(z7:Bool)(l8:LI)(x9:Int):lp k impl_State_balance [.ptr true [.int .i64 a0,.arr true a1z (.r3 a1),.arr true a2z (.ints .i64 a2),.arr true a3z (.ints .i64 a3),.arr true a4z (.ints .i64 a4)]] fu 1 (n+1) (qyk x0 z1 l2 z3 l4 z5 l6 z7 l8 x9)=
 cond (decide (0≤x0))
 ((go k impl_State_refine [.ptr true [.int .i64 x9,.arr true z1 (.r3 l2),.arr true z3 (.ints .i64 l4),.arr true z5 (.ints .i64 l6),.arr true z7 (.ints .i64 l8)],.int .i64 x0]).bind fun r0=>
 (go k impl_Mesh_toRefine [.agg [.int .i64 (D.toInt (D.cell 0 (nth r0 0))),.arr false (D.nil (D.cell 1 (nth r0 0))) (.r3 (D.r3 (D.cell 1 (nth r0 0))))]]).bind fun r1=>
 lp k impl_State_balance [.ptr true [.int .i64 a0,.arr true a1z (.r3 a1),.arr true a2z (.ints .i64 a2),.arr true a3z (.ints .i64 a3),.arr true a4z (.ints .i64 a4)]] fu 1 n (sA (qyk (D.toInt (nth r1 0))) (nth r0 0)))
 (some [.ptr true [.int .i64 x9,.arr true z1 (.r3 l2),.arr true z3 (.ints .i64 l4),.arr true z5 (.ints .i64 l6),.arr true z7 (.ints .i64 l8)]]):=by kernel_rfl
def qzn (x0:Int)(z1:Bool)(l2:L3)(z3:Bool)(l4:LI)(z5:Bool)(l6:LI)(z7:Bool)(l8:LI)(x9:Int)(z10:Bool)(l11:L3)(z12:Bool)(l13:LI)(z14:Bool)(l15:LI)(z16:Bool)(l17:LI)(x18:Int):St:=⟨fill 19 [(1,.ptr 4 0 0),(2,.ptr 9 0 0),(3,.int .i64 x0)],[],[.arr true z1 (.r3 l2),.arr true z3 (.ints .i64 l4),.arr true z5 (.ints .i64 l6),.arr true z7 (.ints .i64 l8),sB true 0 x9,.arr true z10 (.r3 l11),.arr true z12 (.ints .i64 l13),.arr true z14 (.ints .i64 l15),.arr true z16 (.ints .i64 l17),sB true 5 x18]⟩
theorem qna (k:Nat)(a0:Int)(a1z:Bool)(a1:L3)(a2z:Bool)(a2:LI)(a3z:Bool)(a3:LI)(a4z:Bool)(a4:LI):go (k+1) spec_l08Level [sV true a0 a1z a1 a2z a2 a3z a3 a4z a4]=
 (go k spec_l05First [.agg [.int .i64 a0,.arr false a1z (.r3 a1)]]).bind fun r0=>
 lp k spec_l08Level [] [] 2 k (qzn (D.toInt (nth r0 0)) a1z a1 a2z a2 a3z a3 a4z a4 a0 true [] true [] true [] true [] 0):=by kernel_rfl
theorem qr2 (k n:Nat)(fu:FU)(x0:Int)(z1:Bool)(l2:L3)(z3:Bool)(l4:LI)(z5:Bool)(l6:LI)(z7:Bool)(l8:LI)(x9:Int)(z10:Bool)(l11:L3)(z12:Bool)(l13:LI)(z14:Bool)(l15:LI)(z16:Bool)(l17:LI)(x18:Int):lp k spec_l08Level [] fu 2 (n+1) (qzn x0 z1 l2 z3 l4 z5 l6 z7 l8 x9 z10 l11 z12 l13 z14 l15 z16 l17 x18)=
 cond (decide (0≤x0))
 ((go k spec_l05Coarser [.agg [.int .i64 x9,.arr false z1 (.r3 l2)],.int .i64 x0]).bind fun r0=>
 (go k spec_l08Split [sV false x9 z1 l2 z3 l4 z5 l6 z7 l8,.int .i64 (D.toInt (nth r0 0))]).bind fun r1=>
 (go k spec_l05First [.agg [.int .i64 (D.toInt (D.cell 0 (nth r1 0))),.arr false (D.nil (D.cell 1 (nth r1 0))) (.r3 (D.r3 (D.cell 1 (nth r1 0))))]]).bind fun r2=>
 lp k spec_l08Level [] fu 2 n (sA (qzn (D.toInt (nth r2 0))) (nth r1 0) z10 l11 z12 l13 z14 l15 z16 l17 x18))
 (some [sV true x9 z1 l2 z3 l4 z5 l6 z7 l8]):=by kernel_rfl
def qzu (x0:Int)(z1:Bool)(l2:L3)(z3:Bool)(l4:LI)(z5:Bool)(l6:LI)(z7:Bool)(l8:LI)(x9:Int)(z10:Bool)(l11:L3)(z12:Bool)(l13:LI)(z14:Bool)(l15:LI)(z16:Bool)(l17:LI)(x18:Int)(z19:Bool)(l20:LI)(z21:Bool)(l22:L3)(z23:Bool)(l24:LI)(z25:Bool)(l26:LI)(z27:Bool)(l28:LI)(x29:Int):St:=⟨fill 93 [(3,.ptr 4 0 0),(6,.ptr 9 0 0),(7,.sl 10 none),(8,.ptr 15 0 0),(10,.int .i64 x0)],[],[.arr false z1 (.r3 l2),.arr false z3 (.ints .i64 l4),.arr false z5 (.ints .i64 l6),.arr false z7 (.ints .i64 l8),sB true 0 x9,.arr true z10 (.r3 l11),.arr true z12 (.ints .i64 l13),.arr true z14 (.ints .i64 l15),.arr true z16 (.ints .i64 l17),sB true 5 x18,.arr true z19 (.ints .i64 l20),.arr true z21 (.r3 l22),.arr true z23 (.ints .i64 l24),.arr true z25 (.ints .i64 l26),.arr true z27 (.ints .i64 l28),sB true 11 x29]⟩
def qzv (x0:Int)(z1:Bool)(l2:L3)(z3:Bool)(l4:LI)(z5:Bool)(l6:LI)(z7:Bool)(l8:LI)(x9:Int)(z10:Bool)(l11:L3)(z12:Bool)(l13:LI)(z14:Bool)(l15:LI)(z16:Bool)(l17:LI)(x18:Int)(z19:Bool)(l20:LI)(z21:Bool)(l22:L3)(z23:Bool)(l24:LI)(z25:Bool)(l26:LI)(z27:Bool)(l28:LI)(x29:Int):St:=⟨fill 93 [(3,.ptr 4 0 0),(6,.ptr 9 0 0),(7,.sl 10 none),(8,.ptr 15 0 0),(9,.int .i64 x0)],[],[.arr false z1 (.r3 l2),.arr false z3 (.ints .i64 l4),.arr false z5 (.ints .i64 l6),.arr false z7 (.ints .i64 l8),sB true 0 x9,.arr true z10 (.r3 l11),.arr true z12 (.ints .i64 l13),.arr true z14 (.ints .i64 l15),.arr true z16 (.ints .i64 l17),sB true 5 x18,.arr true z19 (.ints .i64 l20),.arr true z21 (.r3 l22),.arr true z23 (.ints .i64 l24),.arr true z25 (.ints .i64 l26),.arr true z27 (.ints .i64 l28),sB true 11 x29]⟩
theorem qnq (k:Nat)(a0:Int)(a1z:Bool)(a1:L3)(a2z:Bool)(a2:LI)(a3z:Bool)(a3:LI)(a4z:Bool)(a4:LI)(b c:Int):go (k+1) spec_l17Adapt [sV false a0 a1z a1 a2z a2 a3z a3 a4z a4,.int .i64 b,.int .i64 c]=
 (go k spec_l16Wishes [sV false a0 a1z a1 a2z a2 a3z a3 a4z a4,.int .i64 b,.int .i64 c]).bind fun r0=>
 (go k spec_l07Copy [sV false a0 a1z a1 a2z a2 a3z a3 a4z a4]).bind fun r1=>
 lp k spec_l17Adapt [] [] 4 k (sA (qzv (IntKind.wrap .i64 (nI (List.length (D.ints (nth r0 0))) - 1)) a1z a1 a2z a2 a3z a3 a4z a4 a0 true [] true [] true [] true [] 0 (D.nil (nth r0 0)) (D.ints (nth r0 0))) (nth r1 0)):=by kernel_rfl
theorem qr9 (k n:Nat)(fu:FU)(x0:Int)(z1:Bool)(l2:L3)(z3:Bool)(l4:LI)(z5:Bool)(l6:LI)(z7:Bool)(l8:LI)(x9:Int)(z10:Bool)(l11:L3)(z12:Bool)(l13:LI)(z14:Bool)(l15:LI)(z16:Bool)(l17:LI)(x18:Int)(z19:Bool)(l20:LI)(z21:Bool)(l22:L3)(z23:Bool)(l24:LI)(z25:Bool)(l26:LI)(z27:Bool)(l28:LI)(x29:Int):lp k spec_l17Adapt [] fu 10 (n+1) (qzu x0 z1 l2 z3 l4 z5 l6 z7 l8 x9 z10 l11 z12 l13 z14 l15 z16 l17 x18 z19 l20 z21 l22 z23 l24 z25 l26 z27 l28 x29)=
 cond (decide (IntKind.wrap .i64 (x0+1)<nI (List.length l24)))
 (cond (decide (0≤x0)&&decide (x0<nI (List.length l22)))
 ((go k spec_LeafOf [.agg [.int .i64 x9,.arr false z1 (.r3 l2)],.agg [.int .i64 (Prod.fst (List.getD l22 (Int.toNat x0) zz3)),.int .i64 (Prod.fst (Prod.snd (List.getD l22 (Int.toNat x0) zz3))),.int .i64 (Prod.snd (Prod.snd (List.getD l22 (Int.toNat x0) zz3)))]]).bind fun r0=>
 cond (decide (0≤IntKind.wrap .i64 (x0+1))&&decide (IntKind.wrap .i64 (x0+1)<nI (List.length l22)))
 ((go k spec_LeafOf [.agg [.int .i64 x9,.arr false z1 (.r3 l2)],.agg [.int .i64 (Prod.fst (List.getD l22 (Int.toNat (IntKind.wrap .i64 (x0+1))) zz3)),.int .i64 (Prod.fst (Prod.snd (List.getD l22 (Int.toNat (IntKind.wrap .i64 (x0+1))) zz3))),.int .i64 (Prod.snd (Prod.snd (List.getD l22 (Int.toNat (IntKind.wrap .i64 (x0+1))) zz3)))]]).bind fun r1=>
 cond (decide (0≤D.toInt (nth r0 0)))
 (cond (decide (0≤D.toInt (nth r1 0)))
 (cond (decide (0≤D.toInt (nth r0 0))&&decide (D.toInt (nth r0 0)<nI (List.length l20)))
 (cond (decide (List.getD l20 (Int.toNat (D.toInt (nth r0 0))) 0=(-1:Int)))
 (cond (decide (0≤D.toInt (nth r1 0))&&decide (D.toInt (nth r1 0)<nI (List.length l20)))
 (cond (decide (List.getD l20 (Int.toNat (D.toInt (nth r1 0))) 0=(-1:Int)))
 ((go k spec_l06May [.agg [.int .i64 x29,.arr false z21 (.r3 l22)],.int .i64 x0]).bind fun r2=>
 cond (bit (nth r2 0))
 ((go k spec_l08Merge [sV false x29 z21 l22 z23 l24 z25 l26 z27 l28,.int .i64 x0]).bind fun r3=>
 lp k spec_l17Adapt [] fu 10 n (sA (qzu (IntKind.wrap .i64 (x0+1)) z1 l2 z3 l4 z5 l6 z7 l8 x9 z10 l11 z12 l13 z14 l15 z16 l17 x18 z19 l20) (nth r3 0)))
 (lp k spec_l17Adapt [] fu 10 n (qzu (IntKind.wrap .i64 (x0+1)) z1 l2 z3 l4 z5 l6 z7 l8 x9 z10 l11 z12 l13 z14 l15 z16 l17 x18 z19 l20 z21 l22 z23 l24 z25 l26 z27 l28 x29)))
 (lp k spec_l17Adapt [] fu 10 n (qzu (IntKind.wrap .i64 (x0+1)) z1 l2 z3 l4 z5 l6 z7 l8 x9 z10 l11 z12 l13 z14 l15 z16 l17 x18 z19 l20 z21 l22 z23 l24 z25 l26 z27 l28 x29)))
 none)
 (lp k spec_l17Adapt [] fu 10 n (qzu (IntKind.wrap .i64 (x0+1)) z1 l2 z3 l4 z5 l6 z7 l8 x9 z10 l11 z12 l13 z14 l15 z16 l17 x18 z19 l20 z21 l22 z23 l24 z25 l26 z27 l28 x29)))
 none)
 (lp k spec_l17Adapt [] fu 10 n (qzu (IntKind.wrap .i64 (x0+1)) z1 l2 z3 l4 z5 l6 z7 l8 x9 z10 l11 z12 l13 z14 l15 z16 l17 x18 z19 l20 z21 l22 z23 l24 z25 l26 z27 l28 x29)))
 (lp k spec_l17Adapt [] fu 10 n (qzu (IntKind.wrap .i64 (x0+1)) z1 l2 z3 l4 z5 l6 z7 l8 x9 z10 l11 z12 l13 z14 l15 z16 l17 x18 z19 l20 z21 l22 z23 l24 z25 l26 z27 l28 x29)))
 none)
 none)
 (some [sV true x29 z21 l22 z23 l24 z25 l26 z27 l28]):=by kernel_rfl
theorem qsa (k n:Nat)(fu:FU)(x0:Int)(z1:Bool)(l2:L3)(z3:Bool)(l4:LI)(z5:Bool)(l6:LI)(z7:Bool)(l8:LI)(x9:Int)(z10:Bool)(l11:L3)(z12:Bool)(l13:LI)(z14:Bool)(l15:LI)(z16:Bool)(l17:LI)(x18:Int)(z19:Bool)(l20:LI)(z21:Bool)(l22:L3)(z23:Bool)(l24:LI)(z25:Bool)(l26:LI)(z27:Bool)(l28:LI)(x29:Int):lp k spec_l17Adapt [] fu 4 (n+1) (qzv x0 z1 l2 z3 l4 z5 l6 z7 l8 x9 z10 l11 z12 l13 z14 l15 z16 l17 x18 z19 l20 z21 l22 z23 l24 z25 l26 z27 l28 x29)=
 cond (decide (0≤x0))
 (cond (decide (0≤x0)&&decide (x0<nI (List.length l20)))
 (cond (decide (List.getD l20 (Int.toNat x0) 0=1))
 ((go k spec_l08Split [sV false x29 z21 l22 z23 l24 z25 l26 z27 l28,.int .i64 x0]).bind fun r0=>
 lp k spec_l17Adapt [] fu 4 n (sA (qzv (IntKind.wrap .i64 (x0 - 1)) z1 l2 z3 l4 z5 l6 z7 l8 x9 z10 l11 z12 l13 z14 l15 z16 l17 x18 z19 l20) (nth r0 0)))
 (lp k spec_l17Adapt [] fu 4 n (qzv (IntKind.wrap .i64 (x0 - 1)) z1 l2 z3 l4 z5 l6 z7 l8 x9 z10 l11 z12 l13 z14 l15 z16 l17 x18 z19 l20 z21 l22 z23 l24 z25 l26 z27 l28 x29)))
 none)
 ((go k spec_l08Level [sV true x29 z21 l22 z23 l24 z25 l26 z27 l28]).bind fun r1=>
 lp k spec_l17Adapt [] fu 10 k (sA (qzu 0 z1 l2 z3 l4 z5 l6 z7 l8 x9 z10 l11 z12 l13 z14 l15 z16 l17 x18 z19 l20) (nth r1 0))):=by kernel_rfl
def qyi (x0:Int)(z1:Bool)(l2:L3)(z3:Bool)(l4:LI)(z5:Bool)(l6:LI)(z7:Bool)(l8:LI)(x9:Int)(l10:L3):St:=⟨fill 91 [(0,.ptr 4 0 0),(7,.mp 5),(9,.int .i64 x0)],[.ptr 4 0 0],[.arr true z1 (.r3 l2),.arr true z3 (.ints .i64 l4),.arr true z5 (.ints .i64 l6),.arr true z7 (.ints .i64 l8),sB true 0 x9,.mp l10]⟩
def qyj (x0:Int)(z1:Bool)(l2:L3)(z3:Bool)(l4:LI)(z5:Bool)(l6:LI)(z7:Bool)(l8:LI)(x9:Int)(z10:Bool)(l11:LI)(l12:L3):St:=⟨fill 91 [(0,.ptr 4 0 0),(6,.sl 5 none),(7,.mp 6),(8,.int .i64 x0)],[.ptr 4 0 0],[.arr true z1 (.r3 l2),.arr true z3 (.ints .i64 l4),.arr true z5 (.ints .i64 l6),.arr true z7 (.ints .i64 l8),sB true 0 x9,.arr true z10 (.ints .i64 l11),.mp l12]⟩
theorem qj9 (k:Nat)(a0:Int)(a1z:Bool)(a1:L3)(a2z:Bool)(a2:LI)(a3z:Bool)(a3:LI)(a4z:Bool)(a4:LI)(b c:Int):go (k+1) impl_State_adapt [.ptr true [.int .i64 a0,.arr true a1z (.r3 a1),.arr true a2z (.ints .i64 a2),.arr true a3z (.ints .i64 a3),.arr true a4z (.ints .i64 a4)],.int .i64 b,.int .i64 c]=
 (go k impl_Wishes [sV false a0 a1z a1 a2z a2 a3z a3 a4z a4,.int .i64 b,.int .i64 c]).bind fun r0=>
 lp k impl_State_adapt [.ptr true [.int .i64 a0,.arr true a1z (.r3 a1),.arr true a2z (.ints .i64 a2),.arr true a3z (.ints .i64 a3),.arr true a4z (.ints .i64 a4)]] [] 3 k (qyj (IntKind.wrap .i64 (nI (List.length (D.ints (nth r0 0))) - 1)) a1z a1 a2z a2 a3z a3 a4z a4 a0 (D.nil (nth r0 0)) (D.ints (nth r0 0)) []):=by kernel_rfl
theorem qqx (k n:Nat)(fu:FU)(a0:Int)(a1z:Bool)(a1:L3)(a2z:Bool)(a2:LI)(a3z:Bool)(a3:LI)(a4z:Bool)(a4:LI)(x0:Int)(z1:Bool)(l2:L3)(z3:Bool)(l4:LI)(z5:Bool)(l6:LI)(z7:Bool)(l8:LI)(x9:Int)(l10:L3):lp k impl_State_adapt [.ptr true [.int .i64 a0,.arr true a1z (.r3 a1),.arr true a2z (.ints .i64 a2),.arr true a3z (.ints .i64 a3),.arr true a4z (.ints .i64 a4)]] fu 12 (n+1) (qyi x0 z1 l2 z3 l4 z5 l6 z7 l8 x9 l10)=
 cond (decide (IntKind.wrap .i64 (x0+1)<nI (List.length l2)))
 (cond (decide (0≤x0)&&decide (x0<nI (List.length l2)))
 (cond (hasK l10 (Prod.fst (List.getD l2 (Int.toNat x0) zz3),Prod.fst (Prod.snd (List.getD l2 (Int.toNat x0) zz3)),Prod.snd (Prod.snd (List.getD l2 (Int.toNat x0) zz3))))
 (cond (decide (0≤IntKind.wrap .i64 (x0+1))&&decide (IntKind.wrap .i64 (x0+1)<nI (List.length l2)))
 (cond (hasK l10 (Prod.fst (List.getD l2 (Int.toNat (IntKind.wrap .i64 (x0+1))) zz3),Prod.fst (Prod.snd (List.getD l2 (Int.toNat (IntKind.wrap .i64 (x0+1))) zz3)),Prod.snd (Prod.snd (List.getD l2 (Int.toNat (IntKind.wrap .i64 (x0+1))) zz3))))
 ((go k impl_Mesh_mayCoarsen [.agg [.int .i64 x9,.arr false z1 (.r3 l2)],.int .i64 x0]).bind fun r0=>
 cond (bit (nth r0 0))
 ((go k impl_State_coarsen [.ptr true [.int .i64 x9,.arr true z1 (.r3 l2),.arr true z3 (.ints .i64 l4),.arr true z5 (.ints .i64 l6),.arr true z7 (.ints .i64 l8)],.int .i64 x0]).bind fun r1=>
 lp k impl_State_adapt [.ptr true [.int .i64 a0,.arr true a1z (.r3 a1),.arr true a2z (.ints .i64 a2),.arr true a3z (.ints .i64 a3),.arr true a4z (.ints .i64 a4)]] fu 12 n (sA (qyi (IntKind.wrap .i64 (x0+1))) (nth r1 0) l10))
 (lp k impl_State_adapt [.ptr true [.int .i64 a0,.arr true a1z (.r3 a1),.arr true a2z (.ints .i64 a2),.arr true a3z (.ints .i64 a3),.arr true a4z (.ints .i64 a4)]] fu 12 n (qyi (IntKind.wrap .i64 (x0+1)) z1 l2 z3 l4 z5 l6 z7 l8 x9 l10)))
 (lp k impl_State_adapt [.ptr true [.int .i64 a0,.arr true a1z (.r3 a1),.arr true a2z (.ints .i64 a2),.arr true a3z (.ints .i64 a3),.arr true a4z (.ints .i64 a4)]] fu 12 n (qyi (IntKind.wrap .i64 (x0+1)) z1 l2 z3 l4 z5 l6 z7 l8 x9 l10)))
 none)
 (lp k impl_State_adapt [.ptr true [.int .i64 a0,.arr true a1z (.r3 a1),.arr true a2z (.ints .i64 a2),.arr true a3z (.ints .i64 a3),.arr true a4z (.ints .i64 a4)]] fu 12 n (qyi (IntKind.wrap .i64 (x0+1)) z1 l2 z3 l4 z5 l6 z7 l8 x9 l10)))
 none)
 (some [.ptr true [.int .i64 x9,.arr true z1 (.r3 l2),.arr true z3 (.ints .i64 l4),.arr true z5 (.ints .i64 l6),.arr true z7 (.ints .i64 l8)]]):=by kernel_rfl
theorem qqy (k n:Nat)(fu:FU)(a0:Int)(a1z:Bool)(a1:L3)(a2z:Bool)(a2:LI)(a3z:Bool)(a3:LI)(a4z:Bool)(a4:LI)(x0:Int)(z1:Bool)(l2:L3)(z3:Bool)(l4:LI)(z5:Bool)(l6:LI)(z7:Bool)(l8:LI)(x9:Int)(z10:Bool)(l11:LI)(l12:L3):lp k impl_State_adapt [.ptr true [.int .i64 a0,.arr true a1z (.r3 a1),.arr true a2z (.ints .i64 a2),.arr true a3z (.ints .i64 a3),.arr true a4z (.ints .i64 a4)]] fu 3 (n+1) (qyj x0 z1 l2 z3 l4 z5 l6 z7 l8 x9 z10 l11 l12)=
 cond (decide (0≤x0))
 (cond (decide (0≤x0)&&decide (x0<nI (List.length l11)))
 (cond (decide (List.getD l11 (Int.toNat x0) 0=1))
 ((go k impl_State_refine [.ptr true [.int .i64 x9,.arr true z1 (.r3 l2),.arr true z3 (.ints .i64 l4),.arr true z5 (.ints .i64 l6),.arr true z7 (.ints .i64 l8)],.int .i64 x0]).bind fun r0=>
 lp k impl_State_adapt [.ptr true [.int .i64 a0,.arr true a1z (.r3 a1),.arr true a2z (.ints .i64 a2),.arr true a3z (.ints .i64 a3),.arr true a4z (.ints .i64 a4)]] fu 3 n (sA (qyj (IntKind.wrap .i64 (x0 - 1))) (nth r0 0) z10 l11 l12))
 (cond (decide (List.getD l11 (Int.toNat x0) 0=(-1:Int)))
 (cond (decide (0≤x0)&&decide (x0<nI (List.length l2)))
 (lp k impl_State_adapt [.ptr true [.int .i64 a0,.arr true a1z (.r3 a1),.arr true a2z (.ints .i64 a2),.arr true a3z (.ints .i64 a3),.arr true a4z (.ints .i64 a4)]] fu 3 n (qyj (IntKind.wrap .i64 (x0 - 1)) z1 l2 z3 l4 z5 l6 z7 l8 x9 z10 l11 (l12++[(Prod.fst (List.getD l2 (Int.toNat x0) zz3),Prod.fst (Prod.snd (List.getD l2 (Int.toNat x0) zz3)),Prod.snd (Prod.snd (List.getD l2 (Int.toNat x0) zz3)))])))
 none)
 (lp k impl_State_adapt [.ptr true [.int .i64 a0,.arr true a1z (.r3 a1),.arr true a2z (.ints .i64 a2),.arr true a3z (.ints .i64 a3),.arr true a4z (.ints .i64 a4)]] fu 3 n (qyj (IntKind.wrap .i64 (x0 - 1)) z1 l2 z3 l4 z5 l6 z7 l8 x9 z10 l11 l12))))
 none)
 ((go k impl_State_balance [.ptr true [.int .i64 x9,.arr true z1 (.r3 l2),.arr true z3 (.ints .i64 l4),.arr true z5 (.ints .i64 l6),.arr true z7 (.ints .i64 l8)]]).bind fun r1=>
 lp k impl_State_adapt [.ptr true [.int .i64 a0,.arr true a1z (.r3 a1),.arr true a2z (.ints .i64 a2),.arr true a3z (.ints .i64 a3),.arr true a4z (.ints .i64 a4)]] fu 12 k (sA (qyi 0) (nth r1 0) l12)):=by kernel_rfl
def qzt (x0 x1 x2:Int)(z3:Bool)(l4:L3)(z5:Bool)(l6:LI)(z7:Bool)(l8:LI)(z9:Bool)(l10:LI)(x11:Int)(z12:Bool)(l13:LI):St:=⟨fill 53 [(1,.int .i64 x0),(2,.int .i64 x1),(3,.ptr 4 0 0),(7,.sl 5 none),(8,.int .i64 x2)],[],[.arr false z3 (.r3 l4),.arr false z5 (.ints .i64 l6),.arr false z7 (.ints .i64 l8),.arr false z9 (.ints .i64 l10),sB true 0 x11,.arr true z12 (.ints .i64 l13)]⟩
theorem qnp (k:Nat)(a0:Int)(a1z:Bool)(a1:L3)(a2z:Bool)(a2:LI)(a3z:Bool)(a3:LI)(a4z:Bool)(a4:LI)(b c:Int):go (k+1) spec_l16Wishes [sV false a0 a1z a1 a2z a2 a3z a3 a4z a4,.int .i64 b,.int .i64 c]=
 lp k spec_l16Wishes [] [] 3 k (qzt b c 0 a1z a1 a2z a2 a3z a3 a4z a4 a0 false []):=by kernel_rfl
theorem qr8 (k n:Nat)(fu:FU)(x0 x1 x2:Int)(z3:Bool)(l4:L3)(z5:Bool)(l6:LI)(z7:Bool)(l8:LI)(z9:Bool)(l10:LI)(x11:Int)(z12:Bool)(l13:LI):lp k spec_l16Wishes [] fu 3 (n+1) (qzt x0 x1 x2 z3 l4 z5 l6 z7 l8 z9 l10 x11 z12 l13)=
 cond (decide (x2<nI (List.length l6)))
 ((go k spec_l16Jump [sV false x11 z3 l4 z5 l6 z7 l8 z9 l10,.int .i64 x2]).bind fun r0=>
 cond (decide (x0<D.toInt (nth r0 0)))
 (cond (decide (0≤x2)&&decide (x2<nI (List.length l4)))
 (cond (decide (Prod.fst (Prod.snd (List.getD l4 (Int.toNat x2) zz3))<4))
 (cond (decide (List.length (l13++[1])≤bigLen))
 (lp k spec_l16Wishes [] fu 3 n (qzt x0 x1 (IntKind.wrap .i64 (x2+1)) z3 l4 z5 l6 z7 l8 z9 l10 x11 (z12&&decide (List.length (l13++[1])=0)) (l13++[1])))
 none)
 (cond (decide (D.toInt (nth r0 0)<x1))
 (cond (decide (0≤x2)&&decide (x2<nI (List.length l4)))
 (cond (decide (0<Prod.fst (Prod.snd (List.getD l4 (Int.toNat x2) zz3))))
 (cond (decide (List.length (l13++[(-1:Int)])≤bigLen))
 (lp k spec_l16Wishes [] fu 3 n (qzt x0 x1 (IntKind.wrap .i64 (x2+1)) z3 l4 z5 l6 z7 l8 z9 l10 x11 (z12&&decide (List.length (l13++[(-1:Int)])=0)) (l13++[(-1:Int)])))
 none)
 (cond (decide (List.length (l13++[0])≤bigLen))
 (lp k spec_l16Wishes [] fu 3 n (qzt x0 x1 (IntKind.wrap .i64 (x2+1)) z3 l4 z5 l6 z7 l8 z9 l10 x11 (z12&&decide (List.length (l13++[0])=0)) (l13++[0])))
 none))
 none)
 (cond (decide (List.length (l13++[0])≤bigLen))
 (lp k spec_l16Wishes [] fu 3 n (qzt x0 x1 (IntKind.wrap .i64 (x2+1)) z3 l4 z5 l6 z7 l8 z9 l10 x11 (z12&&decide (List.length (l13++[0])=0)) (l13++[0])))
 none)))
 none)
 (cond (decide (D.toInt (nth r0 0)<x1))
 (cond (decide (0≤x2)&&decide (x2<nI (List.length l4)))
 (cond (decide (0<Prod.fst (Prod.snd (List.getD l4 (Int.toNat x2) zz3))))
 (cond (decide (List.length (l13++[(-1:Int)])≤bigLen))
 (lp k spec_l16Wishes [] fu 3 n (qzt x0 x1 (IntKind.wrap .i64 (x2+1)) z3 l4 z5 l6 z7 l8 z9 l10 x11 (z12&&decide (List.length (l13++[(-1:Int)])=0)) (l13++[(-1:Int)])))
 none)
 (cond (decide (List.length (l13++[0])≤bigLen))
 (lp k spec_l16Wishes [] fu 3 n (qzt x0 x1 (IntKind.wrap .i64 (x2+1)) z3 l4 z5 l6 z7 l8 z9 l10 x11 (z12&&decide (List.length (l13++[0])=0)) (l13++[0])))
 none))
 none)
 (cond (decide (List.length (l13++[0])≤bigLen))
 (lp k spec_l16Wishes [] fu 3 n (qzt x0 x1 (IntKind.wrap .i64 (x2+1)) z3 l4 z5 l6 z7 l8 z9 l10 x11 (z12&&decide (List.length (l13++[0])=0)) (l13++[0])))
 none)))
 (some [.arr true z12 (.ints .i64 l13)]):=by kernel_rfl
theorem qno (k:Nat)(a0:Int)(a1z:Bool)(a1:L3)(a2z:Bool)(a2:LI)(a3z:Bool)(a3:LI)(a4z:Bool)(a4:LI)(b:Int):go (k+1) spec_l16Jump [sV false a0 a1z a1 a2z a2 a3z a3 a4z a4,.int .i64 b]=
 cond (decide (0<b))
 ((go k spec_l09Surface [sV false a0 a1z a1 a2z a2 a3z a3 a4z a4,.int .i64 b]).bind fun r0=>
 (go k spec_l09Surface [sV false a0 a1z a1 a2z a2 a3z a3 a4z a4,.int .i64 (IntKind.wrap .i64 (b - 1))]).bind fun r1=>
 (go k spec_l09Gap [.int .i64 (D.toInt (nth r0 0)),.int .i64 (D.toInt (nth r1 0))]).bind fun r2=>
 cond (decide (IntKind.wrap .i64 (b+1)<nI (List.length a2)))
 ((go k spec_l09Surface [sV false a0 a1z a1 a2z a2 a3z a3 a4z a4,.int .i64 b]).bind fun r3=>
 (go k spec_l09Surface [sV false a0 a1z a1 a2z a2 a3z a3 a4z a4,.int .i64 (IntKind.wrap .i64 (b+1))]).bind fun r4=>
 (go k spec_l09Gap [.int .i64 (D.toInt (nth r3 0)),.int .i64 (D.toInt (nth r4 0))]).bind fun r5=>
 some [.int .i64 (if D.toInt (nth r5 0)>D.toInt (nth r2 0) then D.toInt (nth r5 0) else D.toInt (nth r2 0))])
 (some [.int .i64 (D.toInt (nth r2 0))]))
 (cond (decide (IntKind.wrap .i64 (b+1)<nI (List.length a2)))
 ((go k spec_l09Surface [sV false a0 a1z a1 a2z a2 a3z a3 a4z a4,.int .i64 b]).bind fun r6=>
 (go k spec_l09Surface [sV false a0 a1z a1 a2z a2 a3z a3 a4z a4,.int .i64 (IntKind.wrap .i64 (b+1))]).bind fun r7=>
 (go k spec_l09Gap [.int .i64 (D.toInt (nth r6 0)),.int .i64 (D.toInt (nth r7 0))]).bind fun r8=>
 some [.int .i64 (if D.toInt (nth r8 0)>0 then D.toInt (nth r8 0) else 0)])
 (some [.int .i64 0])):=by kernel_rfl
def qyn (x0 x1 x2 x3:Int)(z4:Bool)(l5:L3)(z6:Bool)(l7:LI)(z8:Bool)(l9:LI)(z10:Bool)(l11:LI)(x12:Int)(z13:Bool)(l14:LI):St:=⟨fill 29 [(1,.int .i64 x0),(2,.ptr 4 0 0),(5,.int .i64 x1),(11,.sl 5 none),(12,.int .i64 x2),(13,.int .i64 x3)],[],[.arr false z4 (.r3 l5),.arr false z6 (.ints .i64 l7),.arr false z8 (.ints .i64 l9),.arr false z10 (.ints .i64 l11),sB true 0 x12,.arr true z13 (.ints .i64 l14)]⟩
theorem qkh (k:Nat)(a0:Int)(a1z:Bool)(a1:L3)(a2z:Bool)(a2:LI)(a3z:Bool)(a3:LI)(a4z:Bool)(a4:LI)(b:Int):go (k+1) impl_State_jump [sV false a0 a1z a1 a2z a2 a3z a3 a4z a4,.int .i64 b]=
 (go k impl_Mesh_neighbours [.agg [.int .i64 a0,.arr false a1z (.r3 a1)],.int .i64 b]).bind fun r0=>
 lp k impl_State_jump [] [] 3 k (qyn b 0 (nI (List.length (D.ints (nth r0 0)))) 0 a1z a1 a2z a2 a3z a3 a4z a4 a0 (D.nil (nth r0 0)) (D.ints (nth r0 0))):=by kernel_rfl
theorem qq2 (k n:Nat)(fu:FU)(x0 x1 x2 x3:Int)(z4:Bool)(l5:L3)(z6:Bool)(l7:LI)(z8:Bool)(l9:LI)(z10:Bool)(l11:LI)(x12:Int)(z13:Bool)(l14:LI):lp k impl_State_jump [] fu 3 (n+1) (qyn x0 x1 x2 x3 z4 l5 z6 l7 z8 l9 z10 l11 x12 z13 l14)=
 cond (decide (x3<x2))
 (cond (decide (0≤x3)&&decide (x3<nI (List.length l14)))
 ((go k impl_State_surface [sV false x12 z4 l5 z6 l7 z8 l9 z10 l11,.int .i64 x0]).bind fun r0=>
 (go k impl_State_surface [sV false x12 z4 l5 z6 l7 z8 l9 z10 l11,.int .i64 (List.getD l14 (Int.toNat x3) 0)]).bind fun r1=>
 (go k impl_absolute [.int .i64 (IntKind.wrap .i64 (D.toInt (nth r0 0) - D.toInt (nth r1 0)))]).bind fun r2=>
 lp k impl_State_jump [] fu 3 n (qyn x0 (if D.toInt (nth r2 0)>x1 then D.toInt (nth r2 0) else x1) x2 (IntKind.wrap .i64 (x3+1)) z4 l5 z6 l7 z8 l9 z10 l11 x12 z13 l14))
 none)
 (some [.int .i64 x1]):=by kernel_rfl
def qyc (x0 x1:Int)(z2:Bool)(l3:L3)(x4:Int)(z5:Bool)(l6:LI)(z7:Bool)(l8:LI):St:=⟨fill 28 [(2,.ptr 1 0 0),(5,.sl 2 none),(13,.sl 3 none),(14,.int .i64 x0),(15,.int .i64 x1)],[],[.arr false z2 (.r3 l3),.box true [.int .i64 x4,.sl 0 none],.arr true z5 (.ints .i64 l6),.arr true z7 (.ints .i64 l8)]⟩
theorem qjt (k:Nat)(a0:Int)(a1z:Bool)(a1:L3)(b:Int):go (k+1) impl_Mesh_neighbours [.agg [.int .i64 a0,.arr false a1z (.r3 a1)],.int .i64 b]=
 lp k impl_Mesh_neighbours [] [] 3 k (qyc (nI (List.length [IntKind.wrap .i64 (b - 1),IntKind.wrap .i64 (b+1)])) 0 a1z a1 a0 false [] false ([IntKind.wrap .i64 (b - 1),IntKind.wrap .i64 (b+1)])):=by kernel_rfl
theorem qqs (k n:Nat)(fu:FU)(x0 x1:Int)(z2:Bool)(l3:L3)(x4:Int)(z5:Bool)(l6:LI)(z7:Bool)(l8:LI):lp k impl_Mesh_neighbours [] fu 3 (n+1) (qyc x0 x1 z2 l3 x4 z5 l6 z7 l8)=
 cond (decide (x1<x0))
 (cond (decide (0≤x1)&&decide (x1<nI (List.length l8)))
 ((go k impl_Mesh_has [.agg [.int .i64 x4,.arr false z2 (.r3 l3)],.int .i64 (List.getD l8 (Int.toNat x1) 0)]).bind fun r0=>
 cond (bit (nth r0 0))
 (cond (decide (List.length (l6++[List.getD l8 (Int.toNat x1) 0])≤bigLen))
 (lp k impl_Mesh_neighbours [] fu 3 n (qyc x0 (IntKind.wrap .i64 (x1+1)) z2 l3 x4 (z5&&decide (List.length (l6++[List.getD l8 (Int.toNat x1) 0])=0)) (l6++[List.getD l8 (Int.toNat x1) 0]) z7 l8))
 none)
 (lp k impl_Mesh_neighbours [] fu 3 n (qyc x0 (IntKind.wrap .i64 (x1+1)) z2 l3 x4 z5 l6 z7 l8)))
 none)
 (some [.arr true z5 (.ints .i64 l6)]):=by kernel_rfl
def qyv (x0 x1 x2 x3:Int)(z4:Bool)(l5:L3)(z6:Bool)(l7:LI)(z8:Bool)(l9:LI)(z10:Bool)(l11:LI)(x12:Int)(z13:Bool)(l14:LI):St:=⟨fill 52 [(1,.int .i64 x0),(2,.int .i64 x1),(3,.ptr 4 0 0),(7,.sl 5 none),(18,.sl 0 none),(19,.int .i64 x2),(20,.int .i64 x3)],[],[.arr false z4 (.r3 l5),.arr false z6 (.ints .i64 l7),.arr false z8 (.ints .i64 l9),.arr false z10 (.ints .i64 l11),sB true 0 x12,.arr true z13 (.ints .i64 l14)]⟩
theorem qkw (k:Nat)(a0:Int)(a1z:Bool)(a1:L3)(a2z:Bool)(a2:LI)(a3z:Bool)(a3:LI)(a4z:Bool)(a4:LI)(b c:Int):go (k+1) impl_Wishes [sV false a0 a1z a1 a2z a2 a3z a3 a4z a4,.int .i64 b,.int .i64 c]=
 (go k impl_StateOk [sV false a0 a1z a1 a2z a2 a3z a3 a4z a4]).bind fun r0=>
 cond (!bit (nth r0 0))
 (some [.arr true true (.ints .i64 [])])
 (lp k impl_Wishes [] [] 5 k (qyv b c (nI (List.length a1)) 0 a1z a1 a2z a2 a3z a3 a4z a4 a0 false [])):=by kernel_rfl
theorem qra (k n:Nat)(fu:FU)(x0 x1 x2 x3:Int)(z4:Bool)(l5:L3)(z6:Bool)(l7:LI)(z8:Bool)(l9:LI)(z10:Bool)(l11:LI)(x12:Int)(z13:Bool)(l14:LI):lp k impl_Wishes [] fu 5 (n+1) (qyv x0 x1 x2 x3 z4 l5 z6 l7 z8 l9 z10 l11 x12 z13 l14)=
 cond (decide (x3<x2))
 (cond (decide (0≤x3)&&decide (x3<nI (List.length l5)))
 ((go k impl_State_jump [sV false x12 z4 l5 z6 l7 z8 l9 z10 l11,.int .i64 x3]).bind fun r0=>
 cond (decide (x0<D.toInt (nth r0 0)))
 (cond (decide (Prod.fst (Prod.snd (List.getD l5 (Int.toNat x3) zz3))<4))
 (cond (decide (List.length (l14++[1])≤bigLen))
 (lp k impl_Wishes [] fu 5 n (qyv x0 x1 x2 (IntKind.wrap .i64 (x3+1)) z4 l5 z6 l7 z8 l9 z10 l11 x12 (z13&&decide (List.length (l14++[1])=0)) (l14++[1])))
 none)
 (cond (decide (D.toInt (nth r0 0)<x1))
 (cond (decide (0<Prod.fst (Prod.snd (List.getD l5 (Int.toNat x3) zz3))))
 (cond (decide (List.length (l14++[(-1:Int)])≤bigLen))
 (lp k impl_Wishes [] fu 5 n (qyv x0 x1 x2 (IntKind.wrap .i64 (x3+1)) z4 l5 z6 l7 z8 l9 z10 l11 x12 (z13&&decide (List.length (l14++[(-1:Int)])=0)) (l14++[(-1:Int)])))
 none)
 (cond (decide (List.length (l14++[0])≤bigLen))
 (lp k impl_Wishes [] fu 5 n (qyv x0 x1 x2 (IntKind.wrap .i64 (x3+1)) z4 l5 z6 l7 z8 l9 z10 l11 x12 (z13&&decide (List.length (l14++[0])=0)) (l14++[0])))
 none))
 (cond (decide (List.length (l14++[0])≤bigLen))
 (lp k impl_Wishes [] fu 5 n (qyv x0 x1 x2 (IntKind.wrap .i64 (x3+1)) z4 l5 z6 l7 z8 l9 z10 l11 x12 (z13&&decide (List.length (l14++[0])=0)) (l14++[0])))
 none)))
 (cond (decide (D.toInt (nth r0 0)<x1))
 (cond (decide (0<Prod.fst (Prod.snd (List.getD l5 (Int.toNat x3) zz3))))
 (cond (decide (List.length (l14++[(-1:Int)])≤bigLen))
 (lp k impl_Wishes [] fu 5 n (qyv x0 x1 x2 (IntKind.wrap .i64 (x3+1)) z4 l5 z6 l7 z8 l9 z10 l11 x12 (z13&&decide (List.length (l14++[(-1:Int)])=0)) (l14++[(-1:Int)])))
 none)
 (cond (decide (List.length (l14++[0])≤bigLen))
 (lp k impl_Wishes [] fu 5 n (qyv x0 x1 x2 (IntKind.wrap .i64 (x3+1)) z4 l5 z6 l7 z8 l9 z10 l11 x12 (z13&&decide (List.length (l14++[0])=0)) (l14++[0])))
 none))
 (cond (decide (List.length (l14++[0])≤bigLen))
 (lp k impl_Wishes [] fu 5 n (qyv x0 x1 x2 (IntKind.wrap .i64 (x3+1)) z4 l5 z6 l7 z8 l9 z10 l11 x12 (z13&&decide (List.length (l14++[0])=0)) (l14++[0])))
 none)))
 none)
 (some [.arr true z13 (.ints .i64 l14)]):=by kernel_rfl
def qzb (x0:Int)(z1:Bool)(l2:L3)(x3 x4 x5 x6:Int):St:=⟨fill 21 [(2,.ptr 1 0 0),(3,.ptr 2 0 0),(5,.int .i64 x0)],[],[.arr false z1 (.r3 l2),.box true [.int .i64 x3,.sl 0 none],.box true [.int .i64 x4,.int .i64 x5,.int .i64 x6]]⟩
theorem qmc (k:Nat)(a0:Int)(a1z:Bool)(a1:L3)(b0 b1 b2:Int):go (k+1) spec_LeafOf [.agg [.int .i64 a0,.arr false a1z (.r3 a1)],.agg [.int .i64 b0,.int .i64 b1,.int .i64 b2]]=
 lp k spec_LeafOf [] [] 2 k (qzb 0 a1z a1 a0 b0 b1 b2):=by kernel_rfl
theorem qrq (k n:Nat)(fu:FU)(x0:Int)(z1:Bool)(l2:L3)(x3 x4 x5 x6:Int):lp k spec_LeafOf [] fu 2 (n+1) (qzb x0 z1 l2 x3 x4 x5 x6)=
 cond (decide (x0<nI (List.length l2)))
 (cond (decide (0≤x0)&&decide (x0<nI (List.length l2)))
 (cond (decide (Prod.fst (List.getD l2 (Int.toNat x0) zz3)=x4)&&(decide (Prod.fst (Prod.snd (List.getD l2 (Int.toNat x0) zz3))=x5)&&(decide (Prod.snd (Prod.snd (List.getD l2 (Int.toNat x0) zz3))=x6)&&true)))
 (some [.int .i64 x0])
 (lp k spec_LeafOf [] fu 2 n (qzb (IntKind.wrap .i64 (x0+1)) z1 l2 x3 x4 x5 x6)))
 none)
 (some [.int .i64 ((-1:Int))]):=by kernel_rfl

end Go.Proofs.YtjfjniebmdafeaaGreatDoor
end
section
namespace Go.Proofs.YtjfjniebmdafeaaGreatDoor
open Go.Ev
theorem qml (k:Nat)(a:Int):go (k+1) spec_SplitEven [.int .i64 a]=
 cond (decide (a<0))
 (some [.int .i64 0,.int .i64 0])
 (some [.int .i64 (IntKind.wrap .i64 (a - IntKind.wrap .i64 (Int.tdiv a 2))),.int .i64 (IntKind.wrap .i64 (Int.tdiv a 2))]):=by kernel_rfl
theorem qj3 (k:Nat)(a:Int):go (k+1) impl_SplitEven [.int .i64 a]=
 cond (decide (a<0))
 (some [.int .i64 0,.int .i64 0])
 (some [.int .i64 (IntKind.wrap .i64 (a - IntKind.wrap .i64 (Int.tdiv a 2))),.int .i64 (IntKind.wrap .i64 (Int.tdiv a 2))]):=by kernel_rfl
theorem qk1 (k:Nat)(a0 a1 a2 b:Int):go (k+1) impl_child [.agg [.int .i64 a0,.int .i64 a1,.int .i64 a2],.int .i64 b]=
 some [.agg [.int .i64 a0,.int .i64 (IntKind.wrap .i64 (a1+1)),.int .i64 (IntKind.wrap .i64 (IntKind.wrap .i64 (2*a2)+b))]]:=by kernel_rfl
theorem qju (k:Nat)(a0:Int)(a1z:Bool)(a1:L3)(b:Int):go (k+1) impl_Mesh_refine [.ptr true [.int .i64 a0,.arr true a1z (.r3 a1)],.int .i64 b]=
 cond (decide (0≤b)&&decide (b<nI (List.length a1)))
 ((go k impl_child [.agg [.int .i64 (Prod.fst (List.getD a1 (Int.toNat b) zz3)),.int .i64 (Prod.fst (Prod.snd (List.getD a1 (Int.toNat b) zz3))),.int .i64 (Prod.snd (Prod.snd (List.getD a1 (Int.toNat b) zz3)))],.int .i64 0]).bind fun r0=>
 (go k impl_child [.agg [.int .i64 (Prod.fst (List.getD a1 (Int.toNat b) zz3)),.int .i64 (Prod.fst (Prod.snd (List.getD a1 (Int.toNat b) zz3))),.int .i64 (Prod.snd (Prod.snd (List.getD a1 (Int.toNat b) zz3)))],.int .i64 1]).bind fun r1=>
 (go k slices_Replace_impl_Id_impl_Id [.arr true a1z (.r3 a1),.int .i64 b,.int .i64 (IntKind.wrap .i64 (b+1)),.arr false false (.r3 ([(D.toInt (D.cell 0 (nth r0 0)),D.toInt (D.cell 1 (nth r0 0)),D.toInt (D.cell 2 (nth r0 0))),(D.toInt (D.cell 0 (nth r1 0)),D.toInt (D.cell 1 (nth r1 0)),D.toInt (D.cell 2 (nth r1 0)))]))]).bind fun r2=>
 some [.ptr true [.int .i64 a0,.arr true (D.nil (nth r2 0)) (.r3 (D.r3 (nth r2 0)))]])
 none:=by kernel_rfl
theorem qjp (k:Nat)(a0:Int)(a1z:Bool)(a1:L3)(b:Int):go (k+1) impl_Mesh_coarsen [.ptr true [.int .i64 a0,.arr true a1z (.r3 a1)],.int .i64 b]=
 cond (decide (0≤b)&&decide (b<nI (List.length a1)))
 ((go k impl_ParentOf [.agg [.int .i64 (Prod.fst (List.getD a1 (Int.toNat b) zz3)),.int .i64 (Prod.fst (Prod.snd (List.getD a1 (Int.toNat b) zz3))),.int .i64 (Prod.snd (Prod.snd (List.getD a1 (Int.toNat b) zz3)))]]).bind fun r0=>
 (go k slices_Replace_impl_Id_impl_Id [.arr true a1z (.r3 a1),.int .i64 b,.int .i64 (IntKind.wrap .i64 (b+2)),.arr false false (.r3 ([(D.toInt (D.cell 0 (nth r0 0)),D.toInt (D.cell 1 (nth r0 0)),D.toInt (D.cell 2 (nth r0 0)))]))]).bind fun r1=>
 some [.ptr true [.int .i64 a0,.arr true (D.nil (nth r1 0)) (.r3 (D.r3 (nth r1 0)))]])
 none:=by kernel_rfl
theorem qkn (k:Nat)(a0:Int)(a1z:Bool)(a1:L3)(a2z:Bool)(a2:LI)(a3z:Bool)(a3:LI)(a4z:Bool)(a4:LI)(b:Int):go (k+1) impl_State_refine [.ptr true [.int .i64 a0,.arr true a1z (.r3 a1),.arr true a2z (.ints .i64 a2),.arr true a3z (.ints .i64 a3),.arr true a4z (.ints .i64 a4)],.int .i64 b]=
 cond (decide (0≤b)&&decide (b<nI (List.length a2)))
 ((go k impl_SplitEven [.int .i64 (List.getD a2 (Int.toNat b) 0)]).bind fun r0=>
 cond (decide (0≤b)&&decide (b<nI (List.length a3)))
 (cond (decide (0≤b)&&decide (b<nI (List.length a2)))
 ((go k impl_ShareOut [.int .i64 (List.getD a3 (Int.toNat b) 0),.int .i64 (D.toInt (nth r0 0)),.int .i64 (List.getD a2 (Int.toNat b) 0)]).bind fun r1=>
 (go k impl_Mesh_refine [.ptr true [.int .i64 a0,.arr true a1z (.r3 a1)],.int .i64 b]).bind fun r2=>
 (go k slices_Replace_int_int [.arr true a2z (.ints .i64 a2),.int .i64 b,.int .i64 (IntKind.wrap .i64 (b+1)),.arr false false (.ints .i64 ([D.toInt (nth r0 0),D.toInt (nth r0 1)]))]).bind fun r3=>
 cond (decide (0≤b)&&decide (b<nI (List.length a3)))
 ((go k slices_Replace_int_int [.arr true a3z (.ints .i64 a3),.int .i64 b,.int .i64 (IntKind.wrap .i64 (b+1)),.arr false false (.ints .i64 ([D.toInt (nth r1 0),IntKind.wrap .i64 (List.getD a3 (Int.toNat b) 0 - D.toInt (nth r1 0))]))]).bind fun r4=>
 some [.ptr true [.int .i64 (D.toInt (D.cell 0 (nth r2 0))),.arr true (D.nil (D.cell 1 (nth r2 0))) (.r3 (D.r3 (D.cell 1 (nth r2 0)))),.arr true (D.nil (nth r3 0)) (.ints .i64 (D.ints (nth r3 0))),.arr true (D.nil (nth r4 0)) (.ints .i64 (D.ints (nth r4 0))),.arr true a4z (.ints .i64 a4)]])
 none)
 none)
 none)
 none:=by kernel_rfl
theorem qkc (k:Nat)(a0:Int)(a1z:Bool)(a1:L3)(a2z:Bool)(a2:LI)(a3z:Bool)(a3:LI)(a4z:Bool)(a4:LI)(b:Int):go (k+1) impl_State_coarsen [.ptr true [.int .i64 a0,.arr true a1z (.r3 a1),.arr true a2z (.ints .i64 a2),.arr true a3z (.ints .i64 a3),.arr true a4z (.ints .i64 a4)],.int .i64 b]=
 (go k impl_Mesh_coarsen [.ptr true [.int .i64 a0,.arr true a1z (.r3 a1)],.int .i64 b]).bind fun r0=>
 cond (decide (0≤b)&&decide (b<nI (List.length a2)))
 (cond (decide (0≤IntKind.wrap .i64 (b+1))&&decide (IntKind.wrap .i64 (b+1)<nI (List.length a2)))
 ((go k slices_Replace_int_int [.arr true a2z (.ints .i64 a2),.int .i64 b,.int .i64 (IntKind.wrap .i64 (b+2)),.arr false false (.ints .i64 ([IntKind.wrap .i64 (List.getD a2 (Int.toNat b) 0+List.getD a2 (Int.toNat (IntKind.wrap .i64 (b+1))) 0)]))]).bind fun r1=>
 cond (decide (0≤b)&&decide (b<nI (List.length a3)))
 (cond (decide (0≤IntKind.wrap .i64 (b+1))&&decide (IntKind.wrap .i64 (b+1)<nI (List.length a3)))
 ((go k slices_Replace_int_int [.arr true a3z (.ints .i64 a3),.int .i64 b,.int .i64 (IntKind.wrap .i64 (b+2)),.arr false false (.ints .i64 ([IntKind.wrap .i64 (List.getD a3 (Int.toNat b) 0+List.getD a3 (Int.toNat (IntKind.wrap .i64 (b+1))) 0)]))]).bind fun r2=>
 some [.ptr true [.int .i64 (D.toInt (D.cell 0 (nth r0 0))),.arr true (D.nil (D.cell 1 (nth r0 0))) (.r3 (D.r3 (D.cell 1 (nth r0 0)))),.arr true (D.nil (nth r1 0)) (.ints .i64 (D.ints (nth r1 0))),.arr true (D.nil (nth r2 0)) (.ints .i64 (D.ints (nth r2 0))),.arr true a4z (.ints .i64 a4)]])
 none)
 none)
 none)
 none:=by kernel_rfl
theorem qnc (k:Nat)(a0:Int)(a1z:Bool)(a1:L3)(a2z:Bool)(a2:LI)(a3z:Bool)(a3:LI)(a4z:Bool)(a4:LI)(b:Int):go (k+1) spec_l08Split [sV false a0 a1z a1 a2z a2 a3z a3 a4z a4,.int .i64 b]=
 cond (decide (0≤b)&&decide (b<nI (List.length a2)))
 ((go k spec_SplitEven [.int .i64 (List.getD a2 (Int.toNat b) 0)]).bind fun r0=>
 cond (decide (0≤b)&&decide (b<nI (List.length a3)))
 (cond (decide (0≤b)&&decide (b<nI (List.length a2)))
 ((go k spec_ShareOut [.int .i64 (List.getD a3 (Int.toNat b) 0),.int .i64 (D.toInt (nth r0 0)),.int .i64 (List.getD a2 (Int.toNat b) 0)]).bind fun r1=>
 cond (decide (0≤0)&&decide (0≤b)&&decide (b≤nI (List.length a2)))
 (cond (decide (List.length ([]++List.take (Int.toNat b - Int.toNat 0) (List.drop (0+Int.toNat 0) a2))≤bigLen))
 (cond (decide (List.length ([]++List.take (Int.toNat b - Int.toNat 0) (List.drop (0+Int.toNat 0) a2)++[D.toInt (nth r0 0),D.toInt (nth r0 1)])≤bigLen))
 (cond (decide (0≤0)&&decide (0≤b)&&decide (b≤nI (List.length a3)))
 (cond (decide (List.length ([]++List.take (Int.toNat b - Int.toNat 0) (List.drop (0+Int.toNat 0) a3))≤bigLen))
 (cond (decide (0≤b)&&decide (b<nI (List.length a3)))
 (cond (decide (List.length ([]++List.take (Int.toNat b - Int.toNat 0) (List.drop (0+Int.toNat 0) a3)++[D.toInt (nth r1 0),IntKind.wrap .i64 (List.getD a3 (Int.toNat b) 0 - D.toInt (nth r1 0))])≤bigLen))
 ((go k spec_l05Split [.agg [.int .i64 a0,.arr false a1z (.r3 a1)],.int .i64 b]).bind fun r2=>
 cond (decide (0≤IntKind.wrap .i64 (b+1))&&decide (IntKind.wrap .i64 (b+1)≤nI (List.length a2))&&decide (nI (List.length a2)≤nI (List.length a2)))
 (cond (decide (List.length ([]++List.take (Int.toNat b - Int.toNat 0) (List.drop (0+Int.toNat 0) a2)++[D.toInt (nth r0 0),D.toInt (nth r0 1)]++List.take (Int.toNat (nI (List.length a2)) - Int.toNat (IntKind.wrap .i64 (b+1))) (List.drop (0+Int.toNat (IntKind.wrap .i64 (b+1))) a2))≤bigLen))
 (cond (decide (0≤IntKind.wrap .i64 (b+1))&&decide (IntKind.wrap .i64 (b+1)≤nI (List.length a3))&&decide (nI (List.length a3)≤nI (List.length a3)))
 (cond (decide (List.length ([]++List.take (Int.toNat b - Int.toNat 0) (List.drop (0+Int.toNat 0) a3)++[D.toInt (nth r1 0),IntKind.wrap .i64 (List.getD a3 (Int.toNat b) 0 - D.toInt (nth r1 0))]++List.take (Int.toNat (nI (List.length a3)) - Int.toNat (IntKind.wrap .i64 (b+1))) (List.drop (0+Int.toNat (IntKind.wrap .i64 (b+1))) a3))≤bigLen))
 (cond (decide (List.length ([]++a4)≤bigLen))
 (some [.agg [.int .i64 (D.toInt (D.cell 0 (nth r2 0))),.arr true (D.nil (D.cell 1 (nth r2 0))) (.r3 (D.r3 (D.cell 1 (nth r2 0)))),.arr true (false&&decide (List.length ([]++List.take (Int.toNat b - Int.toNat 0) (List.drop (0+Int.toNat 0) a2))=0)&&decide (List.length ([]++List.take (Int.toNat b - Int.toNat 0) (List.drop (0+Int.toNat 0) a2)++[D.toInt (nth r0 0),D.toInt (nth r0 1)])=0)&&decide (List.length ([]++List.take (Int.toNat b - Int.toNat 0) (List.drop (0+Int.toNat 0) a2)++[D.toInt (nth r0 0),D.toInt (nth r0 1)]++List.take (Int.toNat (nI (List.length a2)) - Int.toNat (IntKind.wrap .i64 (b+1))) (List.drop (0+Int.toNat (IntKind.wrap .i64 (b+1))) a2))=0)) (.ints .i64 ([]++List.take (Int.toNat b - Int.toNat 0) (List.drop (0+Int.toNat 0) a2)++[D.toInt (nth r0 0),D.toInt (nth r0 1)]++List.take (Int.toNat (nI (List.length a2)) - Int.toNat (IntKind.wrap .i64 (b+1))) (List.drop (0+Int.toNat (IntKind.wrap .i64 (b+1))) a2))),.arr true (false&&decide (List.length ([]++List.take (Int.toNat b - Int.toNat 0) (List.drop (0+Int.toNat 0) a3))=0)&&decide (List.length ([]++List.take (Int.toNat b - Int.toNat 0) (List.drop (0+Int.toNat 0) a3)++[D.toInt (nth r1 0),IntKind.wrap .i64 (List.getD a3 (Int.toNat b) 0 - D.toInt (nth r1 0))])=0)&&decide (List.length ([]++List.take (Int.toNat b - Int.toNat 0) (List.drop (0+Int.toNat 0) a3)++[D.toInt (nth r1 0),IntKind.wrap .i64 (List.getD a3 (Int.toNat b) 0 - D.toInt (nth r1 0))]++List.take (Int.toNat (nI (List.length a3)) - Int.toNat (IntKind.wrap .i64 (b+1))) (List.drop (0+Int.toNat (IntKind.wrap .i64 (b+1))) a3))=0)) (.ints .i64 ([]++List.take (Int.toNat b - Int.toNat 0) (List.drop (0+Int.toNat 0) a3)++[D.toInt (nth r1 0),IntKind.wrap .i64 (List.getD a3 (Int.toNat b) 0 - D.toInt (nth r1 0))]++List.take (Int.toNat (nI (List.length a3)) - Int.toNat (IntKind.wrap .i64 (b+1))) (List.drop (0+Int.toNat (IntKind.wrap .i64 (b+1))) a3))),.arr true (false&&decide (List.length ([]++a4)=0)) (.ints .i64 ([]++a4))]])
 none)
 none)
 none)
 none)
 none)
 none)
 none)
 none)
 none)
 none)
 none)
 none)
 none)
 none)
 none:=by kernel_rfl
theorem qnb (k:Nat)(a0:Int)(a1z:Bool)(a1:L3)(a2z:Bool)(a2:LI)(a3z:Bool)(a3:LI)(a4z:Bool)(a4:LI)(b:Int):go (k+1) spec_l08Merge [sV false a0 a1z a1 a2z a2 a3z a3 a4z a4,.int .i64 b]=
 cond (decide (0≤0)&&decide (0≤b)&&decide (b≤nI (List.length a2)))
 (cond (decide (List.length ([]++List.take (Int.toNat b - Int.toNat 0) (List.drop (0+Int.toNat 0) a2))≤bigLen))
 (cond (decide (0≤b)&&decide (b<nI (List.length a2)))
 (cond (decide (0≤IntKind.wrap .i64 (b+1))&&decide (IntKind.wrap .i64 (b+1)<nI (List.length a2)))
 (cond (decide (List.length ([]++List.take (Int.toNat b - Int.toNat 0) (List.drop (0+Int.toNat 0) a2)++[IntKind.wrap .i64 (List.getD a2 (Int.toNat b) 0+List.getD a2 (Int.toNat (IntKind.wrap .i64 (b+1))) 0)])≤bigLen))
 (cond (decide (0≤0)&&decide (0≤b)&&decide (b≤nI (List.length a3)))
 (cond (decide (List.length ([]++List.take (Int.toNat b - Int.toNat 0) (List.drop (0+Int.toNat 0) a3))≤bigLen))
 (cond (decide (0≤b)&&decide (b<nI (List.length a3)))
 (cond (decide (0≤IntKind.wrap .i64 (b+1))&&decide (IntKind.wrap .i64 (b+1)<nI (List.length a3)))
 (cond (decide (List.length ([]++List.take (Int.toNat b - Int.toNat 0) (List.drop (0+Int.toNat 0) a3)++[IntKind.wrap .i64 (List.getD a3 (Int.toNat b) 0+List.getD a3 (Int.toNat (IntKind.wrap .i64 (b+1))) 0)])≤bigLen))
 ((go k spec_l06Merge [.agg [.int .i64 a0,.arr false a1z (.r3 a1)],.int .i64 b]).bind fun r0=>
 cond (decide (0≤IntKind.wrap .i64 (b+2))&&decide (IntKind.wrap .i64 (b+2)≤nI (List.length a2))&&decide (nI (List.length a2)≤nI (List.length a2)))
 (cond (decide (List.length ([]++List.take (Int.toNat b - Int.toNat 0) (List.drop (0+Int.toNat 0) a2)++[IntKind.wrap .i64 (List.getD a2 (Int.toNat b) 0+List.getD a2 (Int.toNat (IntKind.wrap .i64 (b+1))) 0)]++List.take (Int.toNat (nI (List.length a2)) - Int.toNat (IntKind.wrap .i64 (b+2))) (List.drop (0+Int.toNat (IntKind.wrap .i64 (b+2))) a2))≤bigLen))
 (cond (decide (0≤IntKind.wrap .i64 (b+2))&&decide (IntKind.wrap .i64 (b+2)≤nI (List.length a3))&&decide (nI (List.length a3)≤nI (List.length a3)))
 (cond (decide (List.length ([]++List.take (Int.toNat b - Int.toNat 0) (List.drop (0+Int.toNat 0) a3)++[IntKind.wrap .i64 (List.getD a3 (Int.toNat b) 0+List.getD a3 (Int.toNat (IntKind.wrap .i64 (b+1))) 0)]++List.take (Int.toNat (nI (List.length a3)) - Int.toNat (IntKind.wrap .i64 (b+2))) (List.drop (0+Int.toNat (IntKind.wrap .i64 (b+2))) a3))≤bigLen))
 (cond (decide (List.length ([]++a4)≤bigLen))
 (some [.agg [.int .i64 (D.toInt (D.cell 0 (nth r0 0))),.arr true (D.nil (D.cell 1 (nth r0 0))) (.r3 (D.r3 (D.cell 1 (nth r0 0)))),.arr true (false&&decide (List.length ([]++List.take (Int.toNat b - Int.toNat 0) (List.drop (0+Int.toNat 0) a2))=0)&&decide (List.length ([]++List.take (Int.toNat b - Int.toNat 0) (List.drop (0+Int.toNat 0) a2)++[IntKind.wrap .i64 (List.getD a2 (Int.toNat b) 0+List.getD a2 (Int.toNat (IntKind.wrap .i64 (b+1))) 0)])=0)&&decide (List.length ([]++List.take (Int.toNat b - Int.toNat 0) (List.drop (0+Int.toNat 0) a2)++[IntKind.wrap .i64 (List.getD a2 (Int.toNat b) 0+List.getD a2 (Int.toNat (IntKind.wrap .i64 (b+1))) 0)]++List.take (Int.toNat (nI (List.length a2)) - Int.toNat (IntKind.wrap .i64 (b+2))) (List.drop (0+Int.toNat (IntKind.wrap .i64 (b+2))) a2))=0)) (.ints .i64 ([]++List.take (Int.toNat b - Int.toNat 0) (List.drop (0+Int.toNat 0) a2)++[IntKind.wrap .i64 (List.getD a2 (Int.toNat b) 0+List.getD a2 (Int.toNat (IntKind.wrap .i64 (b+1))) 0)]++List.take (Int.toNat (nI (List.length a2)) - Int.toNat (IntKind.wrap .i64 (b+2))) (List.drop (0+Int.toNat (IntKind.wrap .i64 (b+2))) a2))),.arr true (false&&decide (List.length ([]++List.take (Int.toNat b - Int.toNat 0) (List.drop (0+Int.toNat 0) a3))=0)&&decide (List.length ([]++List.take (Int.toNat b - Int.toNat 0) (List.drop (0+Int.toNat 0) a3)++[IntKind.wrap .i64 (List.getD a3 (Int.toNat b) 0+List.getD a3 (Int.toNat (IntKind.wrap .i64 (b+1))) 0)])=0)&&decide (List.length ([]++List.take (Int.toNat b - Int.toNat 0) (List.drop (0+Int.toNat 0) a3)++[IntKind.wrap .i64 (List.getD a3 (Int.toNat b) 0+List.getD a3 (Int.toNat (IntKind.wrap .i64 (b+1))) 0)]++List.take (Int.toNat (nI (List.length a3)) - Int.toNat (IntKind.wrap .i64 (b+2))) (List.drop (0+Int.toNat (IntKind.wrap .i64 (b+2))) a3))=0)) (.ints .i64 ([]++List.take (Int.toNat b - Int.toNat 0) (List.drop (0+Int.toNat 0) a3)++[IntKind.wrap .i64 (List.getD a3 (Int.toNat b) 0+List.getD a3 (Int.toNat (IntKind.wrap .i64 (b+1))) 0)]++List.take (Int.toNat (nI (List.length a3)) - Int.toNat (IntKind.wrap .i64 (b+2))) (List.drop (0+Int.toNat (IntKind.wrap .i64 (b+2))) a3))),.arr true (false&&decide (List.length ([]++a4)=0)) (.ints .i64 ([]++a4))]])
 none)
 none)
 none)
 none)
 none)
 none)
 none)
 none)
 none)
 none)
 none)
 none)
 none)
 none)
 none:=by kernel_rfl
theorem qm6 (k:Nat)(a0:Int)(a1z:Bool)(a1:L3)(b:Int):go (k+1) spec_l06Merge [.agg [.int .i64 a0,.arr false a1z (.r3 a1)],.int .i64 b]=
 cond (decide (0≤b)&&decide (b<nI (List.length a1)))
 ((go k spec_ParentOf [.agg [.int .i64 (Prod.fst (List.getD a1 (Int.toNat b) zz3)),.int .i64 (Prod.fst (Prod.snd (List.getD a1 (Int.toNat b) zz3))),.int .i64 (Prod.snd (Prod.snd (List.getD a1 (Int.toNat b) zz3)))]]).bind fun r0=>
 cond (decide (0≤0)&&decide (0≤b)&&decide (b≤nI (List.length a1)))
 (cond (decide (List.length ([]++List.take (Int.toNat b - Int.toNat 0) (List.drop (0+Int.toNat 0) a1))≤bigLen))
 (cond (decide (List.length ([]++List.take (Int.toNat b - Int.toNat 0) (List.drop (0+Int.toNat 0) a1)++[(D.toInt (D.cell 0 (nth r0 0)),D.toInt (D.cell 1 (nth r0 0)),D.toInt (D.cell 2 (nth r0 0)))])≤bigLen))
 (cond (decide (0≤IntKind.wrap .i64 (b+2))&&decide (IntKind.wrap .i64 (b+2)≤nI (List.length a1))&&decide (nI (List.length a1)≤nI (List.length a1)))
 (cond (decide (List.length ([]++List.take (Int.toNat b - Int.toNat 0) (List.drop (0+Int.toNat 0) a1)++[(D.toInt (D.cell 0 (nth r0 0)),D.toInt (D.cell 1 (nth r0 0)),D.toInt (D.cell 2 (nth r0 0)))]++List.take (Int.toNat (nI (List.length a1)) - Int.toNat (IntKind.wrap .i64 (b+2))) (List.drop (0+Int.toNat (IntKind.wrap .i64 (b+2))) a1))≤bigLen))
 (some [.agg [.int .i64 a0,.arr true (false&&decide (List.length ([]++List.take (Int.toNat b - Int.toNat 0) (List.drop (0+Int.toNat 0) a1))=0)&&decide (List.length ([]++List.take (Int.toNat b - Int.toNat 0) (List.drop (0+Int.toNat 0) a1)++[(D.toInt (D.cell 0 (nth r0 0)),D.toInt (D.cell 1 (nth r0 0)),D.toInt (D.cell 2 (nth r0 0)))])=0)&&decide (List.length ([]++List.take (Int.toNat b - Int.toNat 0) (List.drop (0+Int.toNat 0) a1)++[(D.toInt (D.cell 0 (nth r0 0)),D.toInt (D.cell 1 (nth r0 0)),D.toInt (D.cell 2 (nth r0 0)))]++List.take (Int.toNat (nI (List.length a1)) - Int.toNat (IntKind.wrap .i64 (b+2))) (List.drop (0+Int.toNat (IntKind.wrap .i64 (b+2))) a1))=0)) (.r3 ([]++List.take (Int.toNat b - Int.toNat 0) (List.drop (0+Int.toNat 0) a1)++[(D.toInt (D.cell 0 (nth r0 0)),D.toInt (D.cell 1 (nth r0 0)),D.toInt (D.cell 2 (nth r0 0)))]++List.take (Int.toNat (nI (List.length a1)) - Int.toNat (IntKind.wrap .i64 (b+2))) (List.drop (0+Int.toNat (IntKind.wrap .i64 (b+2))) a1)))]])
 none)
 none)
 none)
 none)
 none)
 none:=by kernel_rfl
theorem qmg (k:Nat)(a0 a1 a2:Int):go (k+1) spec_ParentOf [.agg [.int .i64 a0,.int .i64 a1,.int .i64 a2]]=
 (go k spec_IdOk [.agg [.int .i64 a0,.int .i64 a1,.int .i64 a2]]).bind fun r0=>
 cond (!bit (nth r0 0))
 (some [.agg [.int .i64 0,.int .i64 0,.int .i64 0],.bool false])
 (cond (decide (a1=0))
 (some [.agg [.int .i64 0,.int .i64 0,.int .i64 0],.bool false])
 (some [.agg [.int .i64 a0,.int .i64 (IntKind.wrap .i64 (a1 - 1)),.int .i64 (IntKind.wrap .i64 (Int.tdiv a2 2))],.bool true])):=by kernel_rfl
theorem qjx (k:Nat)(a0 a1 a2:Int):go (k+1) impl_ParentOf [.agg [.int .i64 a0,.int .i64 a1,.int .i64 a2]]=
 (go k impl_IdOk [.agg [.int .i64 a0,.int .i64 a1,.int .i64 a2]]).bind fun r0=>
 cond (!bit (nth r0 0))
 (some [.agg [.int .i64 0,.int .i64 0,.int .i64 0],.bool false])
 (cond (decide (a1=0))
 (some [.agg [.int .i64 0,.int .i64 0,.int .i64 0],.bool false])
 (some [.agg [.int .i64 a0,.int .i64 (IntKind.wrap .i64 (a1 - 1)),.int .i64 (IntKind.wrap .i64 (Int.tdiv a2 2))],.bool true])):=by kernel_rfl
theorem qma (k:Nat)(a0 a1 a2 b0 b1 b2:Int):go (k+1) spec_IsSibling [.agg [.int .i64 a0,.int .i64 a1,.int .i64 a2],.agg [.int .i64 b0,.int .i64 b1,.int .i64 b2]]=
 (go k spec_IdOk [.agg [.int .i64 a0,.int .i64 a1,.int .i64 a2]]).bind fun r0=>
 cond (bit (nth r0 0))
 ((go k spec_IdOk [.agg [.int .i64 b0,.int .i64 b1,.int .i64 b2]]).bind fun r1=>
 cond (bit (nth r1 0))
 (cond (decide (a0=b0))
 (cond (decide (a1=b1))
 (cond (decide (Int.tmod a2 2=0))
 (some [.bool (decide (b2=IntKind.wrap .i64 (a2+1)))])
 (some [.bool false]))
 (some [.bool false]))
 (some [.bool false]))
 (some [.bool false]))
 (some [.bool false]):=by kernel_rfl
theorem qjh (k:Nat)(a0 a1 a2 b0 b1 b2:Int):go (k+1) impl_IsSibling [.agg [.int .i64 a0,.int .i64 a1,.int .i64 a2],.agg [.int .i64 b0,.int .i64 b1,.int .i64 b2]]=
 (go k impl_ParentOf [.agg [.int .i64 a0,.int .i64 a1,.int .i64 a2]]).bind fun r0=>
 (go k impl_ParentOf [.agg [.int .i64 b0,.int .i64 b1,.int .i64 b2]]).bind fun r1=>
 cond (bit (nth r0 1))
 (cond (bit (nth r1 1))
 (cond (decide (D.toInt (D.cell 0 (nth r0 0))=D.toInt (D.cell 0 (nth r1 0)))&&(decide (D.toInt (D.cell 1 (nth r0 0))=D.toInt (D.cell 1 (nth r1 0)))&&(decide (D.toInt (D.cell 2 (nth r0 0))=D.toInt (D.cell 2 (nth r1 0)))&&true)))
 (cond (decide (Int.tmod a2 2=0))
 (some [.bool (decide (b2=IntKind.wrap .i64 (a2+1)))])
 (some [.bool false]))
 (some [.bool false]))
 (some [.bool false]))
 (some [.bool false]):=by kernel_rfl
theorem qm5 (k:Nat)(a0:Int)(a1z:Bool)(a1:L3)(b:Int):go (k+1) spec_l06May [.agg [.int .i64 a0,.arr false a1z (.r3 a1)],.int .i64 b]=
 cond (decide (0≤b)&&decide (b<nI (List.length a1)))
 (cond (decide (0≤b)&&decide (b<nI (List.length a1)))
 (cond (decide (0≤IntKind.wrap .i64 (b+1))&&decide (IntKind.wrap .i64 (b+1)<nI (List.length a1)))
 ((go k spec_IsSibling [.agg [.int .i64 (Prod.fst (List.getD a1 (Int.toNat b) zz3)),.int .i64 (Prod.fst (Prod.snd (List.getD a1 (Int.toNat b) zz3))),.int .i64 (Prod.snd (Prod.snd (List.getD a1 (Int.toNat b) zz3)))],.agg [.int .i64 (Prod.fst (List.getD a1 (Int.toNat (IntKind.wrap .i64 (b+1))) zz3)),.int .i64 (Prod.fst (Prod.snd (List.getD a1 (Int.toNat (IntKind.wrap .i64 (b+1))) zz3))),.int .i64 (Prod.snd (Prod.snd (List.getD a1 (Int.toNat (IntKind.wrap .i64 (b+1))) zz3)))]]).bind fun r0=>
 cond (!bit (nth r0 0))
 (some [.bool false])
 (cond (decide (b=0))
 (cond (decide (nI (List.length a1)≤IntKind.wrap .i64 (b+2)))
 (some [.bool true])
 (cond (decide (0≤IntKind.wrap .i64 (b+2))&&decide (IntKind.wrap .i64 (b+2)<nI (List.length a1)))
 (some [.bool (decide (Prod.fst (Prod.snd (List.getD a1 (Int.toNat (IntKind.wrap .i64 (b+2))) zz3))≤Prod.fst (Prod.snd (List.getD a1 (Int.toNat b) zz3))))])
 none))
 (cond (decide (0≤IntKind.wrap .i64 (b - 1))&&decide (IntKind.wrap .i64 (b - 1)<nI (List.length a1)))
 (cond (decide (Prod.fst (Prod.snd (List.getD a1 (Int.toNat (IntKind.wrap .i64 (b - 1))) zz3))≤Prod.fst (Prod.snd (List.getD a1 (Int.toNat b) zz3))))
 (cond (decide (nI (List.length a1)≤IntKind.wrap .i64 (b+2)))
 (some [.bool true])
 (cond (decide (0≤IntKind.wrap .i64 (b+2))&&decide (IntKind.wrap .i64 (b+2)<nI (List.length a1)))
 (some [.bool (decide (Prod.fst (Prod.snd (List.getD a1 (Int.toNat (IntKind.wrap .i64 (b+2))) zz3))≤Prod.fst (Prod.snd (List.getD a1 (Int.toNat b) zz3))))])
 none))
 (some [.bool false]))
 none)))
 none)
 none)
 none:=by kernel_rfl
theorem qjs (k:Nat)(a0:Int)(a1z:Bool)(a1:L3)(b:Int):go (k+1) impl_Mesh_mayCoarsen [.agg [.int .i64 a0,.arr false a1z (.r3 a1)],.int .i64 b]=
 (go k impl_Mesh_has [.agg [.int .i64 a0,.arr false a1z (.r3 a1)],.int .i64 b]).bind fun r0=>
 cond (!bit (nth r0 0))
 (some [.bool false])
 ((go k impl_Mesh_has [.agg [.int .i64 a0,.arr false a1z (.r3 a1)],.int .i64 (IntKind.wrap .i64 (b+1))]).bind fun r1=>
 cond (!bit (nth r1 0))
 (some [.bool false])
 (cond (decide (0≤b)&&decide (b<nI (List.length a1)))
 (cond (decide (0≤IntKind.wrap .i64 (b+1))&&decide (IntKind.wrap .i64 (b+1)<nI (List.length a1)))
 ((go k impl_IsSibling [.agg [.int .i64 (Prod.fst (List.getD a1 (Int.toNat b) zz3)),.int .i64 (Prod.fst (Prod.snd (List.getD a1 (Int.toNat b) zz3))),.int .i64 (Prod.snd (Prod.snd (List.getD a1 (Int.toNat b) zz3)))],.agg [.int .i64 (Prod.fst (List.getD a1 (Int.toNat (IntKind.wrap .i64 (b+1))) zz3)),.int .i64 (Prod.fst (Prod.snd (List.getD a1 (Int.toNat (IntKind.wrap .i64 (b+1))) zz3))),.int .i64 (Prod.snd (Prod.snd (List.getD a1 (Int.toNat (IntKind.wrap .i64 (b+1))) zz3)))]]).bind fun r2=>
 cond (!bit (nth r2 0))
 (some [.bool false])
 (cond (decide (0≤b)&&decide (b<nI (List.length a1)))
 ((go k impl_Mesh_has [.agg [.int .i64 a0,.arr false a1z (.r3 a1)],.int .i64 (IntKind.wrap .i64 (b - 1))]).bind fun r3=>
 cond (bit (nth r3 0))
 (cond (decide (0≤IntKind.wrap .i64 (b - 1))&&decide (IntKind.wrap .i64 (b - 1)<nI (List.length a1)))
 (cond (!decide (Prod.fst (Prod.snd (List.getD a1 (Int.toNat b) zz3))<Prod.fst (Prod.snd (List.getD a1 (Int.toNat (IntKind.wrap .i64 (b - 1))) zz3))))
 ((go k impl_Mesh_has [.agg [.int .i64 a0,.arr false a1z (.r3 a1)],.int .i64 (IntKind.wrap .i64 (b+2))]).bind fun r4=>
 cond (bit (nth r4 0))
 (cond (decide (0≤IntKind.wrap .i64 (b+2))&&decide (IntKind.wrap .i64 (b+2)<nI (List.length a1)))
 (some [.bool (!decide (Prod.fst (Prod.snd (List.getD a1 (Int.toNat b) zz3))<Prod.fst (Prod.snd (List.getD a1 (Int.toNat (IntKind.wrap .i64 (b+2))) zz3))))])
 none)
 (some [.bool (!false)]))
 (some [.bool false]))
 none)
 ((go k impl_Mesh_has [.agg [.int .i64 a0,.arr false a1z (.r3 a1)],.int .i64 (IntKind.wrap .i64 (b+2))]).bind fun r5=>
 cond (bit (nth r5 0))
 (cond (decide (0≤IntKind.wrap .i64 (b+2))&&decide (IntKind.wrap .i64 (b+2)<nI (List.length a1)))
 (some [.bool (!decide (Prod.fst (Prod.snd (List.getD a1 (Int.toNat b) zz3))<Prod.fst (Prod.snd (List.getD a1 (Int.toNat (IntKind.wrap .i64 (b+2))) zz3))))])
 none)
 (some [.bool (!false)])))
 none))
 none)
 none)):=by kernel_rfl
theorem qjv (k:Nat)(a0:Int)(a1z:Bool)(a1:L3):go (k+1) impl_Mesh_toRefine [.agg [.int .i64 a0,.arr false a1z (.r3 a1)]]=
 (go k impl_Mesh_unbalanced [.agg [.int .i64 a0,.arr false a1z (.r3 a1)]]).bind fun r0=>
 cond (decide (0≤D.toInt (nth r0 0)))
 (cond (decide (0≤D.toInt (nth r0 0))&&decide (D.toInt (nth r0 0)<nI (List.length a1)))
 (cond (decide (0≤IntKind.wrap .i64 (D.toInt (nth r0 0)+1))&&decide (IntKind.wrap .i64 (D.toInt (nth r0 0)+1)<nI (List.length a1)))
 (cond (decide (Prod.fst (Prod.snd (List.getD a1 (Int.toNat (IntKind.wrap .i64 (D.toInt (nth r0 0)+1))) zz3))<Prod.fst (Prod.snd (List.getD a1 (Int.toNat (D.toInt (nth r0 0))) zz3))))
 (some [.int .i64 (IntKind.wrap .i64 (D.toInt (nth r0 0)+1))])
 (some [.int .i64 (D.toInt (nth r0 0))]))
 none)
 none)
 (some [.int .i64 (D.toInt (nth r0 0))]):=by kernel_rfl

end Go.Proofs.YtjfjniebmdafeaaGreatDoor
end
section
namespace Go.Proofs.YtjfjniebmdafeaaGreatDoor
open Go.Ev
def okp:Int→List Cell→Bool
  | _,[]=>true
  | p,x::l=>idOk x.1 x.2.1 x.2.2&&(decide (q00 x.1 x.2.1 x.2.2=p)&&okp (p+q2x x.2.1) l)
def endp:Int→List Cell→Int
  | p,[]=>p
  | p,x::l=>endp (p+q2x x.2.1) l
theorem qu7: ∀ (l:List Cell)(r p:Int),qu6 r p l=(okp p l&&(inR r 1 8&&decide (endp p l=r*16)))
  | [],r,p=>rfl
  | x::l,r,p=>by
    simp only [qu6,okp,endp]
    by_cases h:q00 x.1 x.2.1 x.2.2=p
    · rw [h,qu7 l r]; simp only [Bool.and_assoc]; rfl
    · rw [dF h]; simp
theorem qu8 {l:List Cell}{r p:Int} :qu6 r p l=true↔okp p l=true∧(1≤r∧r≤8)∧endp p l=r*16:=by
  rw [qu7]; simp only [Bool.and_eq_true,qpe,decide_eq_true_eq]
theorem qv5 {x:Cell}{l:List Cell}{p:Int} :okp p (x::l)=true↔idOk x.1 x.2.1 x.2.2=true∧q00 x.1 x.2.1 x.2.2=p∧okp (p+q2x x.2.1) l=true:=by
  simp only [okp,Bool.and_eq_true,decide_eq_true_eq]
theorem qn2 (x:Cell)(l:List Cell)(p:Int):endp p (x::l)=endp (p+q2x x.2.1) l:=rfl
theorem qv4: ∀ (a b:List Cell)(p:Int),okp p (a++b)=(okp p a&&okp (endp p a) b)
  | [],b,p=>by simp [okp,endp]
  | x::a,b,p=>by simp only [List.cons_append,okp,endp,qv4 a b,Bool.and_assoc]
theorem qn1: ∀ (a b:List Cell)(p:Int),endp p (a++b)=endp (endp p a) b
  | [],b,p=>by simp [endp]
  | x::a,b,p=>by simp only [List.cons_append,endp,qn1 a b]
theorem q2g (l:List Cell): ∀ n i,(q2f l n i<0↔ ∀ j,i≤j→j<i+n→¬ (1<qsj l j - qsj l (j+1)∨qsj l j - qsj l (j+1)< -1))∧(0≤q2f l n i→ ∃ j:Nat,q2f l n i=j∧i≤j∧j<i+n∧(1<qsj l j - qsj l (j+1)∨qsj l j - qsj l (j+1)< -1))
  | 0,i=>by refine ⟨⟨fun _ j h1 h2=>by omega,fun _=>by simp [q2f]⟩,fun h=>by simp [q2f] at h⟩
  | n+1,i=>by
    have ih:=q2g l n (i+1)
    unfold q2f
    by_cases g:1<qsj l i - qsj l (i+1)∨qsj l i - qsj l (i+1)< -1
    · rw [if_pos g]
      refine ⟨⟨fun h=>by omega,fun h=>absurd g (h i (Nat.le_refl _) (by omega))⟩,fun _=>⟨i,rfl,Nat.le_refl _,by omega,g⟩⟩
    · rw [if_neg g]
      refine ⟨⟨fun h j h1 h2=> ?_,fun h=>ih.1.2 fun j h1 h2=>h j (by omega) (by omega)⟩,fun h=> ?_⟩
      · by_cases e:j=i
        · subst e; exact g
        · exact ih.1.1 h j (by omega) (by omega)
      · obtain ⟨j,e,h1,h2,h3⟩:=ih.2 h
        exact ⟨j,e,by omega,by omega,h3⟩
theorem q2i (l:List Cell):unb l<0↔ ∀ j,j+1<l.length→ -1≤qsj l j - qsj l (j+1)∧qsj l j - qsj l (j+1)≤1:=by
  unfold unb
  rw [(q2g l _ _).1]
  refine ⟨fun h j hj=> ?_,fun h j _ hj=> ?_⟩
  · have:=h j (by omega) (by omega); omega
  · have:=h j (by omega); omega
theorem q2h {l:List Cell}(h:0≤unb l): ∃ j:Nat,unb l=j∧j+1<l.length∧(1<qsj l j - qsj l (j+1)∨qsj l j - qsj l (j+1)< -1):=by
  unfold unb at*
  obtain ⟨j,e,h1,h2,h3⟩:=(q2g l _ _).2 h
  exact ⟨j,e,by omega,h3⟩
end Go.Proofs.YtjfjniebmdafeaaGreatDoor
end
section
namespace Go.Proofs.YtjfjniebmdafeaaGreatDoor
open Go.Ev
theorem w0:q2x 0=16:=by decide
theorem w1_:q2x 1=8:=by decide
theorem w2_:q2x 2=4:=by decide
theorem w3_:q2x 3=2:=by decide
theorem w4_:q2x 4=1:=by decide
theorem qpa {r l i:Int} :idOk r l i=true↔(0≤r∧r≤7)∧(0≤l∧l≤4)∧0≤i∧i<pow2 l:=by
  simp only [idOk,Bool.and_eq_true,qpe,decide_eq_true_eq]
theorem q02 {r l i:Int}(h:idOk r l i=true):q00 r l i=r*16+i*q2x l:=by simp [q00,h]
abbrev ch0 (x:Cell):Cell:=(x.1,x.2.1+1,2*x.2.2)
abbrev ch1 (x:Cell):Cell:=(x.1,x.2.1+1,2*x.2.2+1)
theorem qh5 {r l i:Int}(h:idOk r l i=true)(hl:l<4):idOk r (l+1) (2*i)=true∧idOk r (l+1) (2*i+1)=true∧q00 r (l+1) (2*i)=q00 r l i∧q00 r (l+1) (2*i+1)=q00 r l i+q2x (l+1)∧q2x (l+1)+q2x (l+1)=q2x l:=by
  have h' :=qpa.1 h
  rcases lev (qpe.2 h'.2.1) with rfl | rfl | rfl | rfl | rfl
  · have p:=h'.2.2; simp only [p20] at p
    have a:idOk r 1 (2*i)=true:=qpa.2 ⟨h'.1,by omega,by rw [p21]; omega⟩
    have b:idOk r 1 (2*i+1)=true:=qpa.2 ⟨h'.1,by omega,by rw [p21]; omega⟩
    refine ⟨a,b,?_,?_,rfl⟩
    · show q00 r 1 (2*i)=_; rw [q02 a,q02 h,w0,w1_]; omega
    · show q00 r 1 (2*i+1)=_+q2x 1; rw [q02 b,q02 h,w0,w1_]; omega
  · have p:=h'.2.2; simp only [p21] at p
    have a:idOk r 2 (2*i)=true:=qpa.2 ⟨h'.1,by omega,by rw [p22]; omega⟩
    have b:idOk r 2 (2*i+1)=true:=qpa.2 ⟨h'.1,by omega,by rw [p22]; omega⟩
    refine ⟨a,b,?_,?_,rfl⟩
    · show q00 r 2 (2*i)=_; rw [q02 a,q02 h,w1_,w2_]; omega
    · show q00 r 2 (2*i+1)=_+q2x 2; rw [q02 b,q02 h,w1_,w2_]; omega
  · have p:=h'.2.2; simp only [p22] at p
    have a:idOk r 3 (2*i)=true:=qpa.2 ⟨h'.1,by omega,by rw [p23]; omega⟩
    have b:idOk r 3 (2*i+1)=true:=qpa.2 ⟨h'.1,by omega,by rw [p23]; omega⟩
    refine ⟨a,b,?_,?_,rfl⟩
    · show q00 r 3 (2*i)=_; rw [q02 a,q02 h,w2_,w3_]; omega
    · show q00 r 3 (2*i+1)=_+q2x 3; rw [q02 b,q02 h,w2_,w3_]; omega
  · have p:=h'.2.2; simp only [p23] at p
    have a:idOk r 4 (2*i)=true:=qpa.2 ⟨h'.1,by omega,by rw [p24]; omega⟩
    have b:idOk r 4 (2*i+1)=true:=qpa.2 ⟨h'.1,by omega,by rw [p24]; omega⟩
    refine ⟨a,b,?_,?_,rfl⟩
    · show q00 r 4 (2*i)=_; rw [q02 a,q02 h,w3_,w4_]; omega
    · show q00 r 4 (2*i+1)=_+q2x 4; rw [q02 b,q02 h,w3_,w4_]; omega
  · omega
def q0q (l:List Cell)(i:Nat):List Cell:=l.take i++ch0 (l.getD i zz3)::ch1 (l.getD i zz3)::l.drop (i+1)
theorem q0r {l:List Cell}{i:Nat}(h:i<l.length):(q0q l i).length=l.length+1:=by
  simp only [q0q,List.length_append,List.length_take,List.length_cons,List.length_drop]; omega
theorem qih {α:Type}{l:List α}{i:Nat}(h:i<l.length)(d:α):l=l.take i++l.getD i d::l.drop (i+1):=by
  rw [← qiz h d,List.take_append_drop]
theorem q0u {l:List Cell}{r p:Int}{i:Nat}(h:qu6 r p l=true)(hi:i<l.length)(hl:(l.getD i zz3).2.1<4):qu6 r p (q0q l i)=true:=by
  rw [qu8] at*
  have e:=qih hi zz3
  have h1:=h
  rw [e,qv4,qn1] at h1
  unfold q0q
  rw [qv4,qn1]
  simp only [qv5,qn2,Bool.and_eq_true] at h1 ⊢
  have c:=qh5 h1.1.2.1 hl
  refine ⟨⟨h1.1.1,c.1,?_,c.2.1,?_,?_⟩,h1.2.1,?_⟩
  · rw [c.2.2.1]; exact h1.1.2.2.1
  · rw [c.2.2.2.1,h1.1.2.2.1]
  · rw [Int.add_assoc,c.2.2.2.2]; exact h1.1.2.2.2
  · rw [Int.add_assoc,c.2.2.2.2]; exact h1.2.2
def qh9 (l:List Cell)(i:Nat):Nat:=if qsj l (i+1)<qsj l i then i+1 else i
theorem qia {l:List Cell}{r p:Int}{i:Nat}(h:qu6 r p l=true)(hi:i+1<l.length)(hu:1<qsj l i - qsj l (i+1)∨qsj l i - qsj l (i+1)< -1):qh9 l i<l.length∧qsj l (qh9 l i)<4:=by
  have h1:=qvc _ _ _ h i; have h2:=qvc _ _ _ h (i+1)
  unfold qh9
  by_cases g:qsj l (i+1)<qsj l i
  · rw [if_pos g]; exact ⟨hi,by omega⟩
  · rw [if_neg g]; exact ⟨by omega,by omega⟩
def balN:Nat→List Cell→List Cell
  | 0,l=>l
  | n+1,l=>if unb l<0 then l else balN n (q0q l (qh9 l (unb l).toNat))
theorem qbl: ∀ (n:Nat)(l:List Cell)(r:Int),qu6 r 0 l=true→129≤n+l.length→qu6 r 0 (balN n l)=true∧unb (balN n l)<0
  | 0,l,r,h,hn=>by have:=qvb h; omega
  | n+1,l,r,h,hn=>by
    unfold balN
    by_cases g:unb l<0
    · rw [if_pos g]; exact ⟨h,g⟩
    · rw [if_neg g]
      obtain ⟨j,e,h1,h2⟩:=q2h (by omega:0≤unb l)
      have c:=qia h h1 h2
      rw [e,Int.toNat_natCast]
      exact qbl n _ r (q0u h c.1 c.2) (by rw [q0r c.1]; omega)
def bal (l:List Cell):List Cell:=balN (129 - l.length) l
theorem qbn {l:List Cell}{r:Int}(h:qu6 r 0 l=true):qu6 r 0 (bal l)=true∧unb (bal l)<0:=qbl _ l r h (by have:=qvb h; omega)
abbrev par (x:Cell):Cell:=(x.1,x.2.1 - 1,x.2.2 / 2)
def sib (a b:Cell):Bool:=idOk a.1 a.2.1 a.2.2&&(idOk b.1 b.2.1 b.2.2&&(decide (a.1=b.1)&&(decide (a.2.1=b.2.1)&&(decide (a.2.2 % 2=0)&&decide (b.2.2=a.2.2+1)))))
theorem qwh {r l i:Int}(h:idOk r l i=true)(h' :idOk r l (i+1)=true)(he:i % 2=0):1≤l∧idOk r (l - 1) (i / 2)=true∧q00 r (l - 1) (i / 2)=q00 r l i∧q00 r l (i+1)=q00 r l i+q2x l∧q2x l+q2x l=q2x (l - 1):=by
  have a:=qpa.1 h; have b:=qpa.1 h'
  have hl:1≤l:=by
    rcases Int.lt_or_le l 1 with g | g
    · have:l=0:=by omega
      subst this; rw [p20] at b; omega
    · exact g
  have q:l - 1+1=l:=by omega
  have hi:2*(i / 2)=i:=by omega
  have p0:idOk r (l - 1) (i / 2)=true:=by
    rcases lev (qpe.2 a.2.1) with rfl | rfl | rfl | rfl | rfl
    · omega
    · rw [p21] at b; exact qpa.2 ⟨a.1,by omega,by rw [show (1:Int) - 1=0 from rfl,p20]; omega⟩
    · rw [p22] at b; exact qpa.2 ⟨a.1,by omega,by rw [show (2:Int) - 1=1 from rfl,p21]; omega⟩
    · rw [p23] at b; exact qpa.2 ⟨a.1,by omega,by rw [show (3:Int) - 1=2 from rfl,p22]; omega⟩
    · rw [p24] at b; exact qpa.2 ⟨a.1,by omega,by rw [show (4:Int) - 1=3 from rfl,p23]; omega⟩
  have c:=qh5 p0 (by omega)
  rw [q,hi] at c
  exact ⟨hl,p0,c.2.2.1.symm,by rw [c.2.2.2.1,c.2.2.1],c.2.2.2.2⟩
def qu2 (l:List Cell)(i:Nat):List Cell:=l.take i++par (l.getD i zz3)::l.drop (i+2)
theorem qu3 {l:List Cell}{i:Nat}(h:i+1<l.length):(qu2 l i).length+1=l.length:=by
  simp only [qu2,List.length_append,List.length_take,List.length_cons,List.length_drop]; omega
theorem qu4 {l:List Cell}{r p:Int}{i:Nat}(h:qu6 r p l=true)(hi:i+1<l.length)(hs:sib (l.getD i zz3) (l.getD (i+1) zz3)=true):qu6 r p (qu2 l i)=true:=by
  rw [qu8] at*
  have e:=qih (by omega:i<l.length) zz3
  rw [qiz hi zz3] at e
  have h1:=h
  rw [e,qv4,qn1] at h1
  unfold qu2
  rw [qv4,qn1]
  simp only [sib,Bool.and_eq_true,decide_eq_true_eq] at hs
  simp only [qv5,qn2,Bool.and_eq_true] at h1 ⊢
  obtain ⟨s1,s2,s3,s4,s5,s6⟩:=hs
  have s2' :=s2
  rw [← s3,← s4,s6] at s2'
  have c:=qwh s1 s2' s5
  have e2:q2x (l.getD (i+1) zz3).2.1=q2x (l.getD i zz3).2.1:=by rw [s4]
  rw [e2] at h1
  refine ⟨⟨h1.1.1,c.2.1,?_,?_⟩,h1.2.1,?_⟩
  · rw [c.2.2.1]; exact h1.1.2.2.1
  · rw [← c.2.2.2.2,← Int.add_assoc]; exact h1.1.2.2.2.2.2
  · rw [← c.2.2.2.2,← Int.add_assoc]; exact h1.2.2
end Go.Proofs.YtjfjniebmdafeaaGreatDoor
end
section
namespace Go.Proofs.YtjfjniebmdafeaaGreatDoor
open Go.Ev
def qpm (t lv:Int):Bool:=inR lv 0 4&&(decide (0≤t)&&decide (Int.tmod t (q2x lv)=0))
theorem q21 {l:Int}(h:inR l 0 4=true):0<q2x l:=by
  rcases lev h with rfl | rfl | rfl | rfl | rfl<;>decide
theorem q20 {l:Int}(h:inR l 0 4=false):q2x l=0:=by simp [q2x,h]
theorem qfh (k:Nat)(hk:2000000≤k)(a:Int)(b:Int):go (k+3) spec_IsActive [(.int .i64 (a)),(.int .i64 (b))]=some [.bool (qpm a b)]:=by
  rw [ql8]
  simp (disch:=omega) only [wk,bit,nI,qfx]
  unfold qpm
  cases h:inR b 0 4
  · rw [q20 h]; cases decide ((0:Int)≤a)<;>simp
  · have:=q21 h
    simp (disch:=omega) only [wk,bit,nI,decide_not]
    cases decide ((0:Int)≤a)<;>simp
theorem qcn (k:Nat)(hk:2000000≤k)(a:Int)(b:Int):go (k+4) impl_IsActive [(.int .i64 (a)),(.int .i64 (b))]=some [.bool (qpm a b)]:=by
  rw [qjf]
  simp (disch:=omega) only [wk,bit,nI,qda,qd0]
  unfold qpm
  cases h:inR b 0 4
  · simp
  · have:=q21 h
    simp (disch:=omega) only [wk,bit,nI]
    cases decide ((0:Int)≤a)<;>simp
def qn3 (l:List Cell)(i:Nat):Int:=max (qsj l (i+1)) (qsj l i)
theorem qge (k:Nat)(hk:2000000≤k)(a0:Int)(a1z:Bool)(a1:List Cell)(i:Nat)(hi:i+1<a1.length)(hl:(a1.length:Int)≤1048576):go (k+1) spec_l05Face [.agg [.int .i64 a0,.arr false a1z (.r3 a1)],.int .i64 (i:Int)]=some [.int .i64 (qn3 a1 i)]:=by
  rw [qm1]
  simp (disch:=omega) only [wk,bit,nI]
  rfl
theorem qdu (k:Nat)(hk:2000000≤k)(a0:Int)(a1z:Bool)(a1:List Cell)(i:Nat)(hi:i+1<a1.length)(hl:(a1.length:Int)≤1048576):go (k+1) impl_Mesh_faceLevel [.agg [.int .i64 a0,.arr false a1z (.r3 a1)],.int .i64 (i:Int)]=some [.int .i64 (qn3 a1 i)]:=by
  rw [qjq]
  simp (disch:=omega) only [wk,bit,nI]
  rfl
def qaq (t:Int)(l:List Cell)(i:Nat):Bool:=decide (i+1<l.length)&&qpm t (qn3 l i)
end Go.Proofs.YtjfjniebmdafeaaGreatDoor
end
section
namespace Go.Proofs.YtjfjniebmdafeaaGreatDoor
open Go.Ev
def tab (L:Nat)(g:Nat→Int):List Int:=(List.range L).map g
theorem q1r (L:Nat)(g:Nat→Int):(tab L g).length=L:=by simp [tab]
theorem q1q {L:Nat}{g:Nat→Int}{i:Nat}(h:i<L):(tab L g).getD i 0=g i:=by simp [tab,h]
theorem q1p {L:Nat}{g g' :Nat→Int}(h: ∀ j,j<L→g j=g' j):tab L g=tab L g' :=by
  unfold tab
  exact List.map_congr_left fun j hj=>h j (by simpa using hj)
theorem q1u {L:Nat}{g:Nat→Int}(i:Nat)(v:Int):(tab L g).set i v=tab L (fun j=>if j=i then v else g j):=by
  apply List.ext_getElem
  · simp [tab]
  · intro j h1 h2
    simp only [tab,List.getElem_set,List.getElem_map,List.getElem_range]
    by_cases h:i=j
    · simp [h]
    · rw [if_neg h,if_neg (fun e=>h e.symm)]
theorem q1t (l:List Int):l=tab l.length (fun j=>l.getD j 0):=by
  apply List.ext_getElem
  · simp [tab]
  · intro j h1 h2
    simp [tab,h1]
theorem q1w (L:Nat):List.replicate L (0:Int)=tab L (fun _=>0):=by
  apply List.ext_getElem
  · simp [tab]
  · intro j h1 h2; simp [tab]
theorem q12 {x y B:Int}(hy:0<y)(h: -B≤x)(h' :x≤B): -B≤Int.tdiv x y∧Int.tdiv x y≤B:=by
  by_cases hx:0≤x
  · rw [Int.tdiv_eq_ediv_of_nonneg hx]
    have h1:=Int.ediv_nonneg hx (by omega:0≤y)
    have h2:=Int.ediv_le_self y hx
    omega
  · obtain ⟨z,rfl⟩: ∃ z,x= -z:=⟨-x,by omega⟩
    rw [Int.neg_tdiv,Int.tdiv_eq_ediv_of_nonneg (by omega:0≤z)]
    have h1:=Int.ediv_nonneg (by omega:0≤z) (by omega:0≤y)
    have h2:=Int.ediv_le_self y (by omega:0≤z)
    omega
theorem qvh {x w A:Int}(hx: -A≤x)(hx' :x≤A)(hw:0≤w)(hw' :w≤16): -(16*A)≤x*w∧x*w≤16*A:=by
  have hA:0≤A:=by omega
  have h1:x*w≤A*w:=Int.mul_le_mul_of_nonneg_right hx' hw
  have h2:A*w≤A*16:=Int.mul_le_mul_of_nonneg_left hw' hA
  have h3:(-A)*w≤x*w:=Int.mul_le_mul_of_nonneg_right hx hw
  have h4:(-A)*w= -(A*w):=Int.neg_mul A w
  omega
def qz4 (t p m:Int):Int:=cond (inR m 1 10000000&&(inR p 0 m&&inR t 0 (1000*m))) (Int.tdiv (t*p) m) 0
theorem qz8 {t p m:Int}(hm:inR m 1 10000000=true)(hp:inR p 0 m=true)(ht:inR t 0 (1000*m)=true):0≤t*p∧t*p≤100000000000000000:=by
  rw [qpe] at*
  refine ⟨Int.mul_nonneg (by omega) (by omega),?_⟩
  calc t*p≤10000000000*p:=Int.mul_le_mul_of_nonneg_right (by omega) (by omega)
    _≤10000000000*10000000:=Int.mul_le_mul_of_nonneg_left (by omega) (by omega)
theorem qz6 (t p m:Int):0≤qz4 t p m∧qz4 t p m≤100000000000000000:=by
  unfold qz4
  cases hm:inR m 1 10000000
  · simp
  cases hp:inR p 0 m
  · simp
  cases ht:inR t 0 (1000*m)
  · simp
  have:=qz8 hm hp ht
  have hm' :=qpe.1 hm
  simp only [Bool.and_self,qie]
  rw [Int.tdiv_eq_ediv_of_nonneg this.1]
  exact ⟨Int.ediv_nonneg this.1 (by omega),Int.le_trans (Int.ediv_le_self m this.1) this.2⟩
theorem qz7 {t p m:Int}(ht:0≤t)(hp:0≤p)(h:t≤1000*m):qz4 t p m≤1000*p:=by
  unfold qz4
  cases hh:(inR m 1 10000000&&(inR p 0 m&&inR t 0 (1000*m)))
  · simp only [qic]; omega
  · simp only [Bool.and_eq_true,qpe] at hh
    simp only [qie]
    rw [Int.tdiv_eq_ediv_of_nonneg (Int.mul_nonneg ht hp)]
    apply Int.ediv_le_of_le_mul (by omega)
    calc t*p≤(1000*m)*p:=Int.mul_le_mul_of_nonneg_right h hp
      _=1000*p*m:=by rw [Int.mul_assoc,Int.mul_assoc,Int.mul_comm m p]
def loOk (t m r l:Int):Bool:=inR m 1 10000000&&(inR t 0 (1000*m)&&(inR r 0 m&&inR l 0 (m - r)))
def loA (t m r l:Int):Int:=cond (loOk t m r l) (qz4 t r m) 0
def loB (t m r l:Int):Int:=cond (loOk t m r l) (qz4 t (r+l) m - qz4 t r m) 0
def quo (sa sb la lb:Int):Int:=Int.tdiv ((sa - sb)*q2x (max lb la)) (32*(q2x la+q2x lb))
def qwg (sa sb ma mb la lb:Int):Int:=max (0 - mb / 4) (min (ma / 4) (quo sa sb la lb))
def fl (l:List Cell)(m b:List Int)(i:Nat):Int:=qwg (surf l m b i) (surf l m b (i+1)) (m.getD i 0) (m.getD (i+1) 0) (qsj l i) (qsj l (i+1))
def ff (t:Int)(l:List Cell)(m b:List Int)(i:Nat):Int:=cond (qaq t l i) (fl l m b i) 0
theorem qn4 {t:Int}{l:List Cell}{m b:List Int}{i:Nat}(h:l.length≤i+1):ff t l m b i=0:=by
  unfold ff qaq
  rw [dF (p:=i+1<l.length) (by omega)]; rfl
theorem qof {r:Int}{l:List Cell}{m t b:List Int}(F:StF r l m t b)(i:Nat):0 - m.getD (i+1) 0 / 4≤fl l m b i∧fl l m b i≤m.getD i 0 / 4:=by
  have h1:=F.at i; have h2:=F.at (i+1)
  unfold fl qwg
  omega
theorem qn5 {r:Int}{l:List Cell}{m t b:List Int}(F:StF r l m t b)(tk:Int)(i:Nat):0 - m.getD (i+1) 0 / 4≤ff tk l m b i∧ff tk l m b i≤m.getD i 0 / 4:=by
  have h1:=F.at i; have h2:=F.at (i+1); have h3:=qof F i
  unfold ff
  cases qaq tk l i
  · simp only [qic]; omega
  · simp only [qie]; omega
def rgt (tk:Int)(l:List Cell)(m b:List Int)(i:Nat):Int:=max 0 (ff tk l m b i)
def lft (tk:Int)(l:List Cell)(m b:List Int)(i:Nat):Int:=if 1≤i then max 0 (0 - ff tk l m b (i - 1)) else 0
def outA (tk:Int)(l:List Cell)(m t b:List Int)(i:Nat):Int:=loA (t.getD i 0) (m.getD i 0) (rgt tk l m b i) (lft tk l m b i)
def outB (tk:Int)(l:List Cell)(m t b:List Int)(i:Nat):Int:=loB (t.getD i 0) (m.getD i 0) (rgt tk l m b i) (lft tk l m b i)
def stM (tk:Int)(l:List Cell)(m b:List Int)(j:Nat):Int:=m.getD j 0 - ff tk l m b j+(if 1≤j then ff tk l m b (j - 1) else 0)
def stT (tk:Int)(l:List Cell)(m t b:List Int)(j:Nat):Int:=t.getD j 0 - outA tk l m t b j - outB tk l m t b j+(if 1≤j then outA tk l m t b (j - 1) else 0)+outB tk l m t b (j+1)
theorem qsv (t m l:Int):loA t m 0 l=0:=by
  unfold loA qz4
  cases loOk t m 0 l
  · rfl
  · simp
theorem qsw (t m r:Int):loB t m r 0=0:=by
  unfold loB
  cases loOk t m r 0
  · rfl
  · simp
theorem qwa {tk:Int}{l:List Cell}{m t b:List Int}{i:Nat}(h:rgt tk l m b i=0):outA tk l m t b i=0:=by unfold outA; rw [h,qsv]
theorem qwc {tk:Int}{l:List Cell}{m t b:List Int}{i:Nat}(h:lft tk l m b i=0):outB tk l m t b i=0:=by unfold outB; rw [h,qsw]
theorem qv9 (tk:Int)(l:List Cell)(m t b:List Int)(i:Nat):0≤outA tk l m t b i∧outA tk l m t b i≤100000000000000000:=by
  unfold outA loA
  cases loOk (t.getD i 0) (m.getD i 0) (rgt tk l m b i) (lft tk l m b i)
  · simp
  · exact qz6 _ _ _
theorem qwb (tk:Int)(l:List Cell)(m t b:List Int)(i:Nat): -100000000000000000≤outB tk l m t b i∧outB tk l m t b i≤100000000000000000:=by
  unfold outB loB
  cases loOk (t.getD i 0) (m.getD i 0) (rgt tk l m b i) (lft tk l m b i)
  · simp
  · have h1:=qz6 (t.getD i 0) (rgt tk l m b i) (m.getD i 0)
    have h2:=qz6 (t.getD i 0) (rgt tk l m b i+lft tk l m b i) (m.getD i 0)
    simp only [qie]; omega
def Tk (tk:Int)(l:List Cell)(m t b:List Int)(k j:Nat):Int:=t.getD j 0 - (if j<k then outA tk l m t b j+outB tk l m t b j else 0)+(if 1≤j∧j≤k then outA tk l m t b (j - 1) else 0)+(if j+1<k then outB tk l m t b (j+1) else 0)
def upd (G:Nat→Int)(i:Nat)(A B:Int)(j:Nat):Int:=if 1≤i∧j=i - 1 then G j+B else if j=i+1 then G j+A else if j=i then G j - A - B else G j
theorem q2m {G:Nat→Int}{i:Nat}{A B:Int}(g:1≤i):(fun j=>if j=i - 1 then G (i - 1)+B else if j=i+1 then G (i+1)+A else if j=i then G i - A - B else G j)=upd G i A B:=by
  funext j
  unfold upd
  by_cases q1:j=i - 1
  · rw [if_pos q1,if_pos ⟨g,q1⟩,q1]
  · rw [if_neg q1,if_neg (show ¬ (1≤i∧j=i - 1) from fun hh=>q1 hh.2)]
    by_cases q2:j=i+1
    · rw [if_pos q2,if_pos q2,q2]
    · rw [if_neg q2,if_neg q2]
      by_cases q3:j=i
      · rw [if_pos q3,if_pos q3,q3]
      · rw [if_neg q3,if_neg q3]
theorem q2l {G:Nat→Int}{i:Nat}{A B:Int}(hB:B=0):(fun j=>if j=i+1 then G (i+1)+A else if j=i then G i - A - B else G j)=upd G i A B:=by
  funext j
  unfold upd
  by_cases q1:1≤i∧j=i - 1
  · rw [if_pos q1,if_neg (by omega),if_neg (by omega),hB]; omega
  · rw [if_neg q1]
    by_cases q2:j=i+1
    · rw [if_pos q2,if_pos q2,q2]
    · rw [if_neg q2,if_neg q2]
      by_cases q3:j=i
      · rw [if_pos q3,if_pos q3,q3]
      · rw [if_neg q3,if_neg q3]
theorem q2k {G:Nat→Int}{i:Nat}{A B:Int}(g:1≤i)(hA:A=0):(fun j=>if j=i - 1 then G (i - 1)+B else if j=i then G i - A - B else G j)=upd G i A B:=by
  funext j
  unfold upd
  by_cases q1:j=i - 1
  · rw [if_pos q1,if_pos ⟨g,q1⟩,q1]
  · rw [if_neg q1,if_neg (show ¬ (1≤i∧j=i - 1) from fun hh=>q1 hh.2)]
    by_cases q2:j=i+1
    · rw [if_pos q2,if_neg (by omega),hA]; omega
    · rw [if_neg q2]
      by_cases q3:j=i
      · rw [if_pos q3,if_pos q3,q3]
      · rw [if_neg q3,if_neg q3]
theorem q2j {G:Nat→Int}{i:Nat}{A B:Int}(hA:A=0)(hB:B=0):(fun j=>if j=i then G i - A - B else G j)=upd G i A B:=by
  funext j
  unfold upd
  by_cases q1:1≤i∧j=i - 1
  · rw [if_pos q1,if_neg (by omega),hB]; omega
  · rw [if_neg q1]
    by_cases q2:j=i+1
    · rw [if_pos q2,if_neg (by omega),hA]; omega
    · rw [if_neg q2]
      by_cases q3:j=i
      · rw [if_pos q3,if_pos q3,q3]
      · rw [if_neg q3,if_neg q3]
theorem qan (tk:Int)(l:List Cell)(m t b:List Int)(i:Nat)(hi:i<l.length):
    tab l.length (upd (Tk tk l m t b i) i (outA tk l m t b i) (outB tk l m t b i))=tab l.length (Tk tk l m t b (i+1)):=q1p fun j hj=>by
  unfold upd
  by_cases g1:1≤i∧j=i - 1
  · obtain ⟨g1,rfl⟩:=g1
    rw [if_pos ⟨g1,rfl⟩]
    unfold Tk
    rw [if_pos (show i - 1<i by omega),if_neg (show ¬ (i - 1+1<i) by omega),if_pos (show i - 1<i+1 by omega),if_pos (show i - 1+1<i+1 by omega),show i - 1+1=i by omega]
    have e2:(1≤i - 1∧i - 1≤i)=(1≤i - 1∧i - 1≤i+1):=by rw [eq_iff_iff]; omega
    simp only [e2]; omega
  · rw [if_neg g1]
    by_cases g2:j=i+1
    · subst g2
      rw [if_pos rfl]
      unfold Tk
      rw [if_neg (show ¬ (i+1<i) by omega),if_neg (show ¬ (1≤i+1∧i+1≤i) by omega),if_neg (show ¬ (i+1+1<i) by omega),if_neg (show ¬ (i+1<i+1) by omega),if_pos (show 1≤i+1∧i+1≤i+1 by omega),if_neg (show ¬ (i+1+1<i+1) by omega),Nat.add_sub_cancel]; omega
    · rw [if_neg g2]
      by_cases g3:j=i
      · subst g3
        rw [if_pos rfl]
        unfold Tk
        rw [if_neg (show ¬ (j<j) by omega),if_neg (show ¬ (j+1<j) by omega),if_pos (show j<j+1 by omega),if_neg (show ¬ (j+1<j+1) by omega)]
        have e2:(1≤j∧j≤j)=(1≤j∧j≤j+1):=by rw [eq_iff_iff]; omega
        simp only [e2]; omega
      · rw [if_neg g3]
        unfold Tk
        have e1:(j<i)=(j<i+1):=by rw [eq_iff_iff]; omega
        have e2:(1≤j∧j≤i)=(1≤j∧j≤i+1):=by rw [eq_iff_iff]; omega
        have e3:(j+1<i)=(j+1<i+1):=by rw [eq_iff_iff]; omega
        simp only [e1,e2,e3]
theorem qam (tk:Int)(l:List Cell)(m t b:List Int)(hm:m.length=l.length):tab l.length (Tk tk l m t b l.length)=tab l.length (stT tk l m t b):=q1p fun j hj=>by
  unfold Tk stT
  rw [if_pos hj]
  have e2:(1≤j∧j≤l.length)=(1≤j):=by rw [eq_iff_iff]; omega
  simp only [e2]
  by_cases g:j+1<l.length
  · rw [if_pos g]; omega
  · rw [if_neg g]
    have:outB tk l m t b (j+1)=0:=by
      apply qwc
      unfold lft
      rw [if_pos (by omega),Nat.add_sub_cancel,qn4 (by omega)]; rfl
    omega
theorem qao (tk:Int)(l:List Cell)(m t b:List Int)(ht:t.length=l.length):t=tab l.length (Tk tk l m t b 0):=by
  have h:=q1t t
  rw [ht] at h
  refine h.trans (q1p fun j hj=> ?_)
  unfold Tk
  rw [if_neg (by omega),if_neg (by omega),if_neg (by omega)]; omega
end Go.Proofs.YtjfjniebmdafeaaGreatDoor
end
section
namespace Go.Proofs.YtjfjniebmdafeaaGreatDoor
open Go.Ev
def q1f (g:Nat→Int):Nat→Int
  | 0=>0
  | n+1=>q1f g n+g n
theorem qpo: ∀ (a b:List Int),isum (a++b)=isum a+isum b
  | [],b=>by simp [isum]
  | x::a,b=>by simp only [List.cons_append,isum,qpo a b]; omega
theorem qpw (g:Nat→Int): ∀ n,isum (tab n g)=q1f g n
  | 0=>by simp [tab,isum,q1f]
  | n+1=>by
    have:=qpw g n
    unfold tab at*
    rw [List.range_succ,List.map_append,qpo,this]
    simp [isum,q1f]
theorem qpv (l:List Int):isum l=q1f (fun j=>l.getD j 0) l.length:=by
  have h:=q1t l
  have e:=qpw (fun j=>l.getD j 0) l.length
  rw [← h] at e; exact e
theorem quz: ∀ (m t:List Int),m.length=t.length→(∀ i,i<m.length→(0≤m.getD i 0∧m.getD i 0≤10000000)∧0≤t.getD i 0∧t.getD i 0≤1000*m.getD i 0)→quw m t=true
  | [],t,hl,h=>by simp [quw]
  | x::m,[],hl,h=>by simp at hl
  | x::m,y::t,hl,h=>by
    have h0:=h 0 (by simp)
    simp only [List.getD_cons_zero] at h0
    have ih:=quz m t (by simpa using hl) fun i hi=>by simpa using h (i+1) (by simpa using hi)
    simp only [quw,ih,Bool.and_true,Bool.and_eq_true,qpe]
    exact h0
theorem qny: ∀ (l:List Int),(∀ x∈l,0≤x)→ ∀ x∈l,x≤isum l
  | [],h,x,hx=>by cases hx
  | y::l,h,x,hx=>by
    have hn:0≤isum l:=by
      clear hx
      induction l with
      | nil=>simp [isum]
      | cons z l ih=>
        have:=ih (fun w hw=>h w (by simp only [List.mem_cons] at*; rcases hw with rfl | hw<;>simp_all))
        have:=h z (by simp)
        simp only [isum]; omega
    have hy:=h y (by simp)
    simp only [isum]
    rcases List.mem_cons.1 hx with rfl | hx
    · omega
    · have:=qny l (fun w hw=>h w (by simp [hw])) x hx
      omega
theorem qz5 {t p m:Int}(hm:1≤m)(hm' :m≤10000000)(hp:0≤p)(hp' :p≤m)(ht:0≤t)(ht' :t≤1000*m):qz4 t p m=t*p / m:=by
  unfold qz4
  rw [qpe.2 ⟨hm,hm'⟩,qpe.2 ⟨hp,hp'⟩,qpe.2 ⟨ht,ht'⟩]
  simp only [Bool.and_self,qie]
  exact Int.tdiv_eq_ediv_of_nonneg (Int.mul_nonneg ht hp)
theorem qz9 {t p m:Int}(hm:1≤m)(hp:0≤p)(hp' :p≤m)(ht:0≤t)(ht' :t≤1000*m):0≤t*p / m∧t*p / m≤t∧t - 1000*(m - p)≤t*p / m:=by
  refine ⟨Int.ediv_nonneg (Int.mul_nonneg ht hp) (by omega),?_,?_⟩
  · apply Int.ediv_le_of_le_mul (by omega)
    exact Int.mul_le_mul_of_nonneg_left hp' ht
  · apply Int.le_ediv_of_mul_le (by omega)
    have h1:t*(m - p)≤1000*m*(m - p):=Int.mul_le_mul_of_nonneg_right ht' (by omega)
    have e1:t*(m - p)=t*m - t*p:=Int.mul_sub t m p
    have e2:1000*m*(m - p)=1000*(m - p)*m:=by rw [Int.mul_assoc,Int.mul_comm m (m - p),← Int.mul_assoc]
    have e3:(t - 1000*(m - p))*m=t*m - 1000*(m - p)*m:=Int.sub_mul _ _ _
    omega
theorem q0a {t r l m:Int}(hm:1≤m)(hr:0≤r)(hl:0≤l)(ht:0≤t)(ht' :t≤1000*m):t*r / m≤t*(r+l) / m∧t*(r+l) / m≤t*r / m+1000*l:=by
  have e:t*(r+l)=t*r+t*l:=Int.mul_add t r l
  have n:=Int.mul_nonneg ht hl
  have h1:t*l≤1000*m*l:=Int.mul_le_mul_of_nonneg_right ht' hl
  have e2:1000*m*l=1000*l*m:=by rw [Int.mul_assoc,Int.mul_comm m l,← Int.mul_assoc]
  refine ⟨Int.ediv_le_ediv (by omega) (by omega),?_⟩
  rw [← Int.add_mul_ediv_right _ _ (by omega:m≠0)]
  exact Int.ediv_le_ediv (by omega) (by omega)
section
variable {r:Int} {l:List Cell} {m t b:List Int}
theorem qxn (F:StF r l m t b)(tk:Int)(i:Nat):0≤rgt tk l m b i∧rgt tk l m b i≤m.getD i 0 / 4:=by
  have:=qn5 F tk i; have:=F.at i
  unfold rgt; omega
theorem qsl (F:StF r l m t b)(tk:Int)(i:Nat):0≤lft tk l m b i∧lft tk l m b i≤m.getD i 0 / 4:=by
  have h:=qn5 F tk (i - 1); have:=F.at i
  unfold lft
  by_cases g:1≤i
  · rw [if_pos g]; rw [show i - 1+1=i by omega] at h; omega
  · rw [if_neg g]; omega
theorem qwd (F:StF r l m t b)(tk:Int)(i:Nat):0≤outA tk l m t b i∧outA tk l m t b i≤1000*rgt tk l m b i∧0≤outB tk l m t b i∧outB tk l m t b i≤1000*lft tk l m b i∧
    outA tk l m t b i+outB tk l m t b i≤t.getD i 0∧t.getD i 0 - 1000*(m.getD i 0 - rgt tk l m b i - lft tk l m b i)≤outA tk l m t b i+outB tk l m t b i:=by
  have h:=F.at i; have R:=qxn F tk i; have L:=qsl F tk i
  by_cases hm:1≤m.getD i 0
  · have ok:loOk (t.getD i 0) (m.getD i 0) (rgt tk l m b i) (lft tk l m b i)=true:=by
      unfold loOk
      rw [qpe.2 ⟨hm,h.2.1⟩,qpe.2 ⟨h.2.2.1,h.2.2.2⟩,qpe.2 ⟨R.1,by omega⟩,qpe.2 ⟨L.1,by omega⟩]; rfl
    have s1:=qz5 (t:=t.getD i 0) (p:=rgt tk l m b i) hm h.2.1 R.1 (by omega) h.2.2.1 h.2.2.2
    have s2:=qz5 (t:=t.getD i 0) (p:=rgt tk l m b i+lft tk l m b i) hm h.2.1 (by omega) (by omega) h.2.2.1 h.2.2.2
    have c1:=qz9 (t:=t.getD i 0) (p:=rgt tk l m b i+lft tk l m b i) hm (by omega) (by omega) h.2.2.1 h.2.2.2
    have c2:=q0a (t:=t.getD i 0) (r:=rgt tk l m b i) (l:=lft tk l m b i) hm R.1 L.1 h.2.2.1 h.2.2.2
    have c3:=qz7 (t:=t.getD i 0) (p:=rgt tk l m b i) (m:=m.getD i 0) h.2.2.1 R.1 h.2.2.2
    have c4:=(qz6 (t.getD i 0) (rgt tk l m b i) (m.getD i 0)).1
    unfold outA outB loA loB
    rw [ok]
    simp only [qie]
    omega
  · have z:m.getD i 0=0:=by omega
    have ok:loOk (t.getD i 0) (m.getD i 0) (rgt tk l m b i) (lft tk l m b i)=false:=by
      unfold loOk
      have:inR (m.getD i 0) 1 10000000=false:=by rw [← Bool.not_eq_true,qpe]; omega
      rw [this]; rfl
    unfold outA outB loA loB
    rw [ok]
    simp only [qic]
    omega
theorem q0v (F:StF r l m t b)(tk:Int)(j:Nat):stM tk l m b j=m.getD j 0 - rgt tk l m b j - lft tk l m b j+(if 1≤j then rgt tk l m b (j - 1) else 0)+lft tk l m b (j+1):=by
  unfold stM rgt lft
  rw [if_pos (show 1≤j+1 by omega),Nat.add_sub_cancel]
  by_cases g:1≤j
  · simp only [if_pos g]; omega
  · simp only [if_neg g]; omega
theorem q0w (F:StF r l m t b)(tk:Int)(j:Nat):0≤stM tk l m b j:=by
  rw [q0v F]
  have R:=qxn F tk j; have L:=qsl F tk j; have R' :=qxn F tk (j - 1); have L' :=qsl F tk (j+1); have:=F.at j
  by_cases g:1≤j
  · rw [if_pos g]; omega
  · rw [if_neg g]; omega
theorem q0y (F:StF r l m t b)(tk:Int)(j:Nat):0≤stT tk l m t b j∧stT tk l m t b j≤1000*stM tk l m b j:=by
  rw [q0v F]
  unfold stT
  have a:=qwd F tk j; have a1:=qwd F tk (j - 1); have a2:=qwd F tk (j+1)
  by_cases g:1≤j
  · rw [if_pos g,if_pos g]; omega
  · rw [if_neg g,if_neg g]; omega
theorem q0x (tk:Int)(l:List Cell)(m b:List Int): ∀ n,q1f (stM tk l m b) n=q1f (fun j=>m.getD j 0) n - (if 1≤n then ff tk l m b (n - 1) else 0)
  | 0=>by simp [q1f]
  | n+1=>by
    have ih:=q0x tk l m b n
    simp only [q1f,ih]
    rw [if_pos (show 1≤n+1 by omega),Nat.add_sub_cancel]
    unfold stM
    by_cases g:1≤n
    · simp only [if_pos g]; omega
    · simp only [if_neg g]; omega
theorem q0z (tk:Int)(l:List Cell)(m t b:List Int): ∀ n,q1f (stT tk l m t b) n=q1f (fun j=>t.getD j 0) n - (if 1≤n then outA tk l m t b (n - 1) else 0) - outB tk l m t b 0+outB tk l m t b n
  | 0=>by simp [q1f]; omega
  | n+1=>by
    have ih:=q0z tk l m t b n
    simp only [q1f,ih]
    rw [if_pos (show 1≤n+1 by omega),Nat.add_sub_cancel]
    unfold stT
    by_cases g:1≤n
    · simp only [if_pos g]; omega
    · simp only [if_neg g]; omega
theorem q07 (F:StF r l m t b)(tk:Int):isum (tab l.length (stM tk l m b))=isum m:=by
  have L:=F.len
  rw [qpw,q0x,qpv m,F.ml,if_pos L.1,qn4 (by omega)]; omega
theorem q08 (F:StF r l m t b)(tk:Int):isum (tab l.length (stT tk l m t b))=isum t:=by
  have L:=F.len
  have z1:outA tk l m t b (l.length - 1)=0:=qwa (by unfold rgt; rw [qn4 (by omega)]; rfl)
  have z2:outB tk l m t b 0=0:=qwc (by unfold lft; rw [if_neg (by omega)])
  have z3:outB tk l m t b l.length=0:=qwc (by unfold lft; rw [if_pos L.1,qn4 (by omega)]; rfl)
  rw [qpw,q0z,qpv t,F.tl,if_pos L.1,z1,z2,z3]; omega
theorem q04 (F:StF r l m t b)(tk:Int):StF r l (tab l.length (stM tk l m b)) (tab l.length (stT tk l m t b)) b:=by
  have hs:=q07 F tk
  have hn: ∀ x∈tab l.length (stM tk l m b),0≤x:=by
    intro x hx
    simp only [tab,List.mem_map] at hx
    obtain ⟨j,_,rfl⟩:=hx
    exact q0w F tk j
  refine ⟨F.mesh,F.bal,q1r _ _,q1r _ _,F.bl,?_,F.bed,by rw [hs]; exact F.sum⟩
  refine quz _ _ (by rw [q1r,q1r]) fun i hi=> ?_
  rw [q1r] at hi
  have h1:=qny _ hn _ (qov (by rw [q1r]; exact hi:i<(tab l.length (stM tk l m b)).length) 0)
  rw [hs] at h1
  have:=F.sum
  rw [q1q hi] at*
  rw [q1q hi]
  exact ⟨⟨q0w F tk i,by omega⟩,q0y F tk i⟩
end
end Go.Proofs.YtjfjniebmdafeaaGreatDoor
end
