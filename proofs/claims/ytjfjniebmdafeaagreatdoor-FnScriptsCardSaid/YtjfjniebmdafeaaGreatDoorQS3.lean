/- What the program's functions compute, and plain facts of it (part 3). No condition beyond those that each theorem states. -/
import Derived.Test.YtjfjniebmdafeaaGreatDoorQS2
set_option linter.unusedVariables false
set_option linter.unusedSimpArgs false
section
namespace Go.Proofs.YtjfjniebmdafeaaGreatDoor
open Go.Ev
abbrev S3:=List Cell×List Int×List Int
structure StU (r:Int) (s:S3) (b:List Int):Prop where
  mesh:qu6 r 0 s.1=true
  ml:s.2.1.length=s.1.length
  tl:s.2.2.length=s.1.length
  bl:(b.length:Int)=r
  mt:quw s.2.1 s.2.2=true
  bed:qbo b=true
  sum:isum s.2.1≤10000000
theorem StF.toU {r:Int}{l:List Cell}{m t b:List Int}(F:StF r l m t b):StU r (l,m,t) b:=⟨F.mesh,F.ml,F.tl,F.bl,F.mt,F.bed,F.sum⟩
theorem StU.toF {r:Int}{s:S3}{b:List Int}(U:StU r s b)(h:unb s.1<0):StF r s.1 s.2.1 s.2.2 b:=⟨U.mesh,h,U.ml,U.tl,U.bl,U.mt,U.bed,U.sum⟩
theorem StU.len {r:Int}{s:S3}{b:List Int}(U:StU r s b):1≤s.1.length∧s.1.length≤128:=qvb U.mesh
theorem StU.rr {r:Int}{s:S3}{b:List Int}(U:StU r s b):1≤r∧r≤8:=⟨(qva _ _ _ U.mesh).1,(qva _ _ _ U.mesh).2.1⟩
theorem StU.at {r:Int}{s:S3}{b:List Int}(U:StU r s b)(i:Nat):0≤s.2.1.getD i 0∧s.2.1.getD i 0≤10000000∧0≤s.2.2.getD i 0∧s.2.2.getD i 0≤1000*s.2.1.getD i 0:=qux _ _ (by rw [U.ml,U.tl]) U.mt i
theorem StU.id {r:Int}{s:S3}{b:List Int}(U:StU r s b){i:Nat}(h:i<s.1.length):idOk (s.1.getD i zz3).1 (s.1.getD i zz3).2.1 (s.1.getD i zz3).2.2=true:=((qva _ _ _ U.mesh).2.2.2.1 _ h).2.2
theorem qs5: ∀ (n:Nat)(m t:List Int),quw m t=true→quw (m.take n) (t.take n)=true
  | 0,m,t,h=>by simp [quw]
  | n+1,[],t,h=>by simp [quw]
  | n+1,x::m,[],h=>by simp [quw]
  | n+1,x::m,y::t,h=>by
    simp only [List.take_succ_cons,quw,Bool.and_eq_true] at h ⊢
    exact ⟨h.1,h.2.1,qs5 n m t h.2.2⟩
theorem qs4: ∀ (n:Nat)(m t:List Int),quw m t=true→quw (m.drop n) (t.drop n)=true
  | 0,m,t,h=>by simpa using h
  | n+1,[],t,h=>by simp [quw]
  | n+1,x::m,[],h=>by cases h' :List.drop n m<;>simp [quw,h']
  | n+1,x::m,y::t,h=>by
    simp only [List.drop_succ_cons,quw,Bool.and_eq_true] at h ⊢
    exact qs4 n m t h.2.2
theorem qs2: ∀ (m t m' t' :List Int),m.length=t.length→quw m t=true→quw m' t' =true→quw (m++m') (t++t')=true
  | [],[],m',t',_,_,h=>h
  | [],_::_,_,_,h,_,_=>by simp at h
  | _::_,[],_,_,h,_,_=>by simp at h
  | x::m,y::t,m',t',hl,h,h' =>by
    simp only [List.cons_append,quw,Bool.and_eq_true] at h ⊢
    exact ⟨h.1,h.2.1,qs2 m t m' t' (by simpa using hl) h.2.2 h'⟩
theorem qs3 {x y:Int}{m t:List Int}(h1:0≤x∧x≤10000000)(h2:0≤y∧y≤1000*x)(h:quw m t=true):quw (x::m) (y::t)=true:=by
  simp only [quw,Bool.and_eq_true,qpe]; exact ⟨h1,h2,h⟩
theorem qpp {m:List Int}{i:Nat}(h:i<m.length):isum (m.take i)+m.getD i 0+isum (m.drop (i+1))=isum m:=by
  have e:=qih h 0
  have:=congrArg isum e
  rw [qpo,isum] at this
  omega
abbrev hA (x:Int):Int:=x - x / 2
abbrev hB (x:Int):Int:=x / 2
theorem hAB {x:Int}(h:0≤x):hA x+hB x=x∧0≤hB x∧hB x≤x∧0≤hA x∧hA x≤x:=by unfold hA hB; omega
def rfM (m:List Int)(i:Nat):List Int:=m.take i++hA (m.getD i 0)::hB (m.getD i 0)::m.drop (i+1)
abbrev shr (t m:Int):Int:=qz4 t (hA m) m
def rfT (t m:List Int)(i:Nat):List Int:=t.take i++shr (t.getD i 0) (m.getD i 0)::(t.getD i 0 - shr (t.getD i 0) (m.getD i 0))::t.drop (i+1)
def rfS (s:S3)(i:Nat):S3:=(q0q s.1 i,rfM s.2.1 i,rfT s.2.2 s.2.1 i)
theorem q0b {t m:Int}(hm:0≤m∧m≤10000000)(ht:0≤t∧t≤1000*m):(0≤shr t m∧shr t m≤1000*hA m)∧0≤t - shr t m∧t - shr t m≤1000*hB m:=by
  have q:=hAB hm.1
  have p1:=(qz6 t (hA m) m).1
  have p2:=qz7 (t:=t) (p:=hA m) (m:=m) ht.1 (by omega) ht.2
  by_cases h0:m=0
  · subst h0
    have:t=0:=by omega
    subst this
    have p3:shr 0 0=0:=by unfold shr; omega
    rw [p3] at*
    exact ⟨⟨by omega,by omega⟩,by omega,by omega⟩
  · have e:shr t m=(t*hA m) / m:=by
      unfold shr qz4
      rw [show inR m 1 10000000=true from qpe.2 (by omega),show inR (hA m) 0 m=true from qpe.2 (by omega),show inR t 0 (1000*m)=true from qpe.2 ht]
      simp only [Bool.and_self,qie]
      exact Int.tdiv_eq_ediv_of_nonneg (Int.mul_nonneg ht.1 (by omega))
    refine ⟨⟨p1,p2⟩,?_,?_⟩
    · have:(t*hA m) / m≤t:=by
        apply Int.ediv_le_of_le_mul (by omega)
        exact Int.mul_le_mul_of_nonneg_left (by omega) ht.1
      omega
    · have hx:t*hB m≤1000*m*hB m:=Int.mul_le_mul_of_nonneg_right ht.2 (by omega)
      have hs:t*hA m+t*hB m=t*m:=by rw [← Int.mul_add,q.1]
      have h2:(t - 1000*hB m)*m≤t*hA m:=by
        rw [Int.sub_mul,Int.mul_right_comm 1000 (hB m) m]
        rw [show 1000*m*hB m=1000*m*hB m from rfl] at hx
        omega
      have:t - 1000*hB m≤(t*hA m) / m:=(Int.le_ediv_iff_mul_le (by omega)).2 h2
      omega
theorem qxj {m:List Int}{i:Nat}(h:i<m.length):(rfM m i).length=m.length+1:=by
  simp only [rfM,List.length_append,List.length_take,List.length_cons,List.length_drop]; omega
theorem qxl {t m:List Int}{i:Nat}(h:i<t.length):(rfT t m i).length=t.length+1:=by
  simp only [rfT,List.length_append,List.length_take,List.length_cons,List.length_drop]; omega
theorem qxk {m:List Int}{i:Nat}(h:i<m.length)(h0:0≤m.getD i 0):isum (rfM m i)=isum m:=by
  have:=qpp h; have:=hAB h0
  simp only [rfM,qpo,isum]
  omega
theorem qxm {t m:List Int}{i:Nat}(h:i<t.length):isum (rfT t m i)=isum t:=by
  have:=qpp h
  simp only [rfT,qpo,isum]
  omega
theorem rf_U {r:Int}{s:S3}{b:List Int}(U:StU r s b){i:Nat}(hi:i<s.1.length)(hl:qsj s.1 i<4):StU r (rfS s i) b:=by
  have a:=U.at i; have ml:=U.ml; have tl:=U.tl; have q:=hAB a.1
  have sh:=q0b ⟨a.1,a.2.1⟩ ⟨a.2.2.1,a.2.2.2⟩
  refine ⟨q0u U.mesh hi hl,?_,?_,U.bl,?_,U.bed,?_⟩
  · show (rfM s.2.1 i).length=(q0q s.1 i).length
    rw [qxj (by omega),q0r hi]; omega
  · show (rfT s.2.2 s.2.1 i).length=(q0q s.1 i).length
    rw [qxl (by omega),q0r hi]; omega
  · exact qs2 _ _ _ _ (by rw [List.length_take,List.length_take]; omega) (qs5 i _ _ U.mt) (qs3 (by omega) sh.1 (qs3 (by omega) sh.2 (qs4 _ _ _ U.mt)))
  · show isum (rfM s.2.1 i)≤_
    rw [qxk (by omega) a.1]; exact U.sum
def cmM (m:List Int)(i:Nat):List Int:=m.take i++(m.getD i 0+m.getD (i+1) 0)::m.drop (i+2)
def cmS (s:S3)(i:Nat):S3:=(qu2 s.1 i,cmM s.2.1 i,cmM s.2.2 i)
theorem qh6 {m:List Int}{i:Nat}(h:i+1<m.length):(cmM m i).length+1=m.length:=by
  simp only [cmM,List.length_append,List.length_take,List.length_cons,List.length_drop]; omega
theorem qpq {m:List Int}{i:Nat}(h:i+1<m.length):isum (m.take i)+m.getD i 0+m.getD (i+1) 0+isum (m.drop (i+2))=isum m:=by
  have e:=qpp (show i<m.length by omega)
  rw [qiz h 0,isum,show i+1+1=i+2 from rfl] at e
  omega
theorem qh7 {m:List Int}{i:Nat}(h:i+1<m.length):isum (cmM m i)=isum m:=by
  have:=qpq h
  simp only [cmM,qpo,isum]
  omega
theorem qpt {m:List Int}(h: ∀ x∈m,0≤x):0≤isum m:=by
  induction m with
  | nil=>simp [isum]
  | cons x m ih=>have:=h x (by simp); have:=ih fun y hy=>h y (by simp [hy]); simp only [isum]; omega
theorem cm_U {r:Int}{s:S3}{b:List Int}(U:StU r s b){i:Nat}(hi:i+1<s.1.length)(hs:sib (s.1.getD i zz3) (s.1.getD (i+1) zz3)=true):StU r (cmS s i) b:=by
  have a:=U.at i; have a' :=U.at (i+1); have ml:=U.ml; have tl:=U.tl
  have mem:=quy _ _ (by rw [ml,tl]) U.mt
  have s1:=qpt (m:=s.2.1.take i) fun x hx=>(mem.1 x (List.mem_of_mem_take hx)).1
  have s2:=qpt (m:=s.2.1.drop (i+2)) fun x hx=>(mem.1 x (List.mem_of_mem_drop hx)).1
  have s3:=qpq (m:=s.2.1) (i:=i) (by omega)
  have s4:=U.sum
  refine ⟨qu4 U.mesh hi hs,?_,?_,U.bl,?_,U.bed,?_⟩
  · show (cmM s.2.1 i).length=(qu2 s.1 i).length
    have h1:=qh6 (m:=s.2.1) (i:=i) (by omega); have h2:=qu3 hi; omega
  · show (cmM s.2.2 i).length=(qu2 s.1 i).length
    have h1:=qh6 (m:=s.2.2) (i:=i) (by omega); have h2:=qu3 hi; omega
  · exact qs2 _ _ _ _ (by rw [List.length_take,List.length_take]; omega) (qs5 i _ _ U.mt) (qs3 (by omega) (by omega) (qs4 _ _ _ U.mt))
  · show isum (cmM s.2.1 i)≤_
    rw [qh7 (by omega)]; exact U.sum
def lvS:Nat→S3→S3
  | 0,s=>s
  | n+1,s=>if unb s.1<0 then s else lvS n (rfS s (qh9 s.1 (unb s.1).toNat))
theorem qs0 {r:Int}{b:List Int} : ∀ (n:Nat)(s:S3),StU r s b→129≤n+s.1.length→StU r (lvS n s) b∧unb (lvS n s).1<0
  | 0,s,U,hn=>by have:=U.len; omega
  | n+1,s,U,hn=>by
    unfold lvS
    by_cases g:unb s.1<0
    · rw [if_pos g]; exact ⟨U,g⟩
    · rw [if_neg g]
      obtain ⟨j,e,h1,h2⟩:=q2h (by omega:0≤unb s.1)
      have c:=qia U.mesh h1 h2
      rw [e,Int.toNat_natCast]
      exact qs0 n _ (rf_U U c.1 c.2) (by show 129≤n+(q0q s.1 _).length; rw [q0r c.1]; omega)
def spS (w:List Int):Nat→S3→S3
  | 0,s=>s
  | n+1,s=>spS w n (if w.getD n 0=1 then rfS s n else s)
def mayC (l:List Cell)(i:Nat):Bool:=sib (l.getD i zz3) (l.getD (i+1) zz3)&&((decide (i=0)||decide (qsj l (i - 1)≤qsj l i))&&(decide (l.length≤i+2)||decide (qsj l (i+2)≤qsj l i)))
def mgS (P:Cell→Bool):Nat→Nat→S3→S3
  | 0,i,s=>s
  | n+1,i,s=>if i+1<s.1.length then mgS P n (i+1) (if (P (s.1.getD i zz3)&&(P (s.1.getD (i+1) zz3)&&mayC s.1 i))=true then cmS s i else s) else s
theorem q0s {l:List Cell}{i j:Nat}(hi:i<l.length)(h:j<i):(q0q l i).getD j zz3=l.getD j zz3:=by
  unfold q0q
  simp only [List.getD_eq_getElem?_getD]
  rw [List.getElem?_append_left (by rw [List.length_take]; omega),List.getElem?_take,if_pos h]
theorem q0h {r:Int}{b:List Int}(w:List Int)(l0:List Cell)(hw: ∀ j,w.getD j 0=1→qsj l0 j<4): ∀ (n:Nat)(s:S3),StU r s b→n≤s.1.length→(∀ j,j<n→s.1.getD j zz3=l0.getD j zz3)→StU r (spS w n s) b
  | 0,s,U,hn,he=>U
  | n+1,s,U,hn,he=>by
    unfold spS
    by_cases g:w.getD n 0=1
    · rw [if_pos g]
      have hl:qsj s.1 n<4:=by have:=hw n g; unfold qsj at*; rw [he n (by omega)]; exact this
      exact q0h w l0 hw n _ (rf_U U (by omega) hl) (by show n≤(q0q s.1 n).length; rw [q0r (by omega)]; omega) fun j hj=>by
        show (q0q s.1 n).getD j zz3=_
        rw [q0s (by omega) hj]; exact he j (by omega)
    · rw [if_neg g]
      exact q0h w l0 hw n s U (by omega) fun j hj=>he j (by omega)
theorem qve {r:Int}{b:List Int}(P:Cell→Bool): ∀ (n i:Nat)(s:S3),StU r s b→StU r (mgS P n i s) b
  | 0,i,s,U=>U
  | n+1,i,s,U=>by
    unfold mgS
    by_cases g:i+1<s.1.length
    · rw [if_pos g]
      by_cases h:(P (s.1.getD i zz3)&&(P (s.1.getD (i+1) zz3)&&mayC s.1 i))=true
      · rw [if_pos h]
        simp only [Bool.and_eq_true,mayC] at h
        exact qve P n (i+1) _ (cm_U U g h.2.2.1)
      · rw [if_neg h]; exact qve P n (i+1) s U
    · rw [if_neg g]; exact U
theorem qu5 {l:List Cell}{i:Nat}(hi:i+1<l.length)(hu:unb l<0)(hm:mayC l i=true)(h1:1≤qsj l i):unb (qu2 l i)<0:=by
  have ml:=qu3 hi
  simp only [mayC,Bool.and_eq_true,Bool.or_eq_true,decide_eq_true_eq,sib] at hm
  obtain ⟨⟨_,_,_,hlev,_⟩,hlo,hhi⟩:=hm
  rw [q2i] at hu ⊢
  have lv: ∀ j,qsj (qu2 l i) j=if j<i then qsj l j else if j=i then qsj l i - 1 else qsj l (j+1):=fun j=>by
    unfold qu2 qsj
    simp only [List.getD_eq_getElem?_getD]
    by_cases g:j<i
    · rw [if_pos g,List.getElem?_append_left (by rw [List.length_take]; omega),List.getElem?_take,if_pos g]
    · rw [if_neg g,List.getElem?_append_right (by rw [List.length_take]; omega),List.length_take,Nat.min_eq_left (by omega)]
      by_cases g2:j=i
      · subst g2; rw [if_pos rfl,Nat.sub_self]; simp [par]
      · rw [if_neg g2,show j - i=(j - i - 1)+1 by omega,List.getElem?_cons_succ,List.getElem?_drop]
        congr 4; omega
  intro j hj
  have hj' :j+1<l.length - 1:=by omega
  rw [lv,lv]
  have hu1:=fun q (hq:q+1<l.length)=>hu q hq
  have hle:qsj l i=qsj l (i+1):=hlev
  by_cases g:j+1<i
  · rw [if_pos (by omega),if_pos g]; exact hu j (by omega)
  by_cases g1:j+1=i
  · rw [if_pos (by omega),if_neg (by omega),if_pos g1]
    have:=hu j (by omega)
    rw [g1] at this
    rcases hlo with h | h
    · omega
    · rw [show i - 1=j by omega] at h; omega
  by_cases g2:j=i
  · subst g2
    rw [if_neg (by omega),if_pos rfl,if_neg (by omega),if_neg (by omega)]
    have:=hu (j+1) (by omega)
    rcases hhi with h | h
    · omega
    · rw [show j+1+1=j+2 by omega] at*; omega
  · rw [if_neg (by omega),if_neg (by omega),if_neg (by omega),if_neg (by omega)]; exact hu (j+1) (by omega)
theorem q0c {a b:Cell}(h:sib a b=true):1≤a.2.1:=by
  simp only [sib,Bool.and_eq_true,decide_eq_true_eq] at h
  obtain ⟨h1,h2,h3,h4,h5,h6⟩:=h
  rw [← h3,← h4,h6] at h2
  exact (qwh h1 h2 h5).1
theorem qvg (P:Cell→Bool): ∀ (n i:Nat)(s:S3),unb s.1<0→unb (mgS P n i s).1<0
  | 0,i,s,U=>U
  | n+1,i,s,U=>by
    unfold mgS
    by_cases g:i+1<s.1.length
    · rw [if_pos g]
      by_cases h:(P (s.1.getD i zz3)&&(P (s.1.getD (i+1) zz3)&&mayC s.1 i))=true
      · rw [if_pos h]
        simp only [Bool.and_eq_true] at h
        have h2:=h.2.2
        simp only [mayC,Bool.and_eq_true] at h2
        exact qvg P n (i+1) _ (qu5 g U h.2.2 (q0c h2.1))
      · rw [if_neg h]; exact qvg P n (i+1) s U
    · rw [if_neg g]; exact U
end Go.Proofs.YtjfjniebmdafeaaGreatDoor
end
section
namespace Go.Proofs.YtjfjniebmdafeaaGreatDoor
open Go.Ev
theorem qke (k:Nat)(a0:Int)(a1z:Bool)(a1:L3)(a2z:Bool)(a2:LI)(a3z:Bool)(a3:LI)(a4z:Bool)(a4:LI)(b:Int):go (k+1) impl_State_flux [sV false a0 a1z a1 a2z a2 a3z a3 a4z a4,.int .i64 b]=
 (go k impl_State_side [sV false a0 a1z a1 a2z a2 a3z a3 a4z a4,.int .i64 b]).bind fun r0=>
 (go k impl_State_side [sV false a0 a1z a1 a2z a2 a3z a3 a4z a4,.int .i64 (IntKind.wrap .i64 (b+1))]).bind fun r1=>
 (go k impl_flux [.agg [.int .i64 (D.toInt (D.cell 0 (nth r0 0))),.int .i64 (D.toInt (D.cell 1 (nth r0 0))),.int .i64 (D.toInt (D.cell 2 (nth r0 0)))],.agg [.int .i64 (D.toInt (D.cell 0 (nth r1 0))),.int .i64 (D.toInt (D.cell 1 (nth r1 0))),.int .i64 (D.toInt (D.cell 2 (nth r1 0)))]]).bind fun r2=>
 some [.int .i64 (D.toInt (nth r2 0))]:=by kernel_rfl
theorem qkq (k:Nat)(a0:Int)(a1z:Bool)(a1:L3)(a2z:Bool)(a2:LI)(a3z:Bool)(a3:LI)(a4z:Bool)(a4:LI)(b:Int):go (k+1) impl_State_side [sV false a0 a1z a1 a2z a2 a3z a3 a4z a4,.int .i64 b]=
 cond (decide (0≤b)&&decide (b<nI (List.length a1)))
 (cond (decide (0≤b)&&decide (b<nI (List.length a2)))
 ((go k impl_State_surface [sV false a0 a1z a1 a2z a2 a3z a3 a4z a4,.int .i64 b]).bind fun r0=>
 some [.agg [.int .i64 (Prod.fst (Prod.snd (List.getD a1 (Int.toNat b) zz3))),.int .i64 (List.getD a2 (Int.toNat b) 0),.int .i64 (D.toInt (nth r0 0))]])
 none)
 none:=by kernel_rfl
theorem qk7 (k:Nat)(a0 a1 a2 b0 b1 b2:Int):go (k+1) impl_flux [.agg [.int .i64 a0,.int .i64 a1,.int .i64 a2],.agg [.int .i64 b0,.int .i64 b1,.int .i64 b2]]=
 (go k impl_WidthOf [.int .i64 a0]).bind fun r0=>
 (go k impl_WidthOf [.int .i64 b0]).bind fun r1=>
 (go k impl_WidthOf [.int .i64 (if b0>a0 then b0 else a0)]).bind fun r2=>
 (go k impl_DivTrunc [.int .i64 (IntKind.wrap .i64 (IntKind.wrap .i64 (a2 - b2)*D.toInt (nth r2 0))),.int .i64 (IntKind.wrap .i64 (32*IntKind.wrap .i64 (D.toInt (nth r0 0)+D.toInt (nth r1 0))))]).bind fun r3=>
 (go k impl_Clamp [.int .i64 (D.toInt (nth r3 0)),.int .i64 (IntKind.wrap .i64 (0 - IntKind.wrap .i64 (Int.tdiv b1 4))),.int .i64 (IntKind.wrap .i64 (Int.tdiv a1 4))]).bind fun r4=>
 some [.int .i64 (D.toInt (nth r4 0))]:=by kernel_rfl
theorem qi5 (k:Nat)(a b c:Int):go (k+1) impl_Clamp [.int .i64 a,.int .i64 b,.int .i64 c]=
 cond (decide (c<b))
 (some [.int .i64 b])
 (some [.int .i64 (if c<if b>a then b else a then c else if b>a then b else a)]):=by kernel_rfl
theorem qi7 (k:Nat)(a b:Int):go (k+1) impl_DivTrunc [.int .i64 a,.int .i64 b]=
 cond (decide (b≤0))
 (some [.int .i64 0])
 (cond (!decide (b=0))
 (some [.int .i64 (IntKind.wrap .i64 (Int.tdiv a b))])
 none):=by kernel_rfl
theorem qjk (k:Nat)(a b c d:Int):go (k+1) impl_LeafOut [.int .i64 a,.int .i64 b,.int .i64 c,.int .i64 d]=
 (go k impl_within [.int .i64 b,.int .i64 1,.int .i64 10000000]).bind fun r0=>
 cond (!bit (nth r0 0))
 (some [.int .i64 0,.int .i64 0])
 ((go k impl_within [.int .i64 a,.int .i64 0,.int .i64 (IntKind.wrap .i64 (1000*b))]).bind fun r1=>
 cond (!bit (nth r1 0))
 (some [.int .i64 0,.int .i64 0])
 ((go k impl_within [.int .i64 c,.int .i64 0,.int .i64 b]).bind fun r2=>
 cond (!bit (nth r2 0))
 (some [.int .i64 0,.int .i64 0])
 ((go k impl_within [.int .i64 d,.int .i64 0,.int .i64 (IntKind.wrap .i64 (b - c))]).bind fun r3=>
 cond (!bit (nth r3 0))
 (some [.int .i64 0,.int .i64 0])
 ((go k impl_ShareOut [.int .i64 a,.int .i64 c,.int .i64 b]).bind fun r4=>
 (go k impl_ShareOut [.int .i64 a,.int .i64 (IntKind.wrap .i64 (c+d)),.int .i64 b]).bind fun r5=>
 some [.int .i64 (D.toInt (nth r4 0)),.int .i64 (IntKind.wrap .i64 (D.toInt (nth r5 0) - D.toInt (nth r4 0)))])))):=by kernel_rfl
theorem qj2 (k:Nat)(a b c:Int):go (k+1) impl_ShareOut [.int .i64 a,.int .i64 b,.int .i64 c]=
 (go k impl_within [.int .i64 c,.int .i64 1,.int .i64 10000000]).bind fun r0=>
 cond (!bit (nth r0 0))
 (some [.int .i64 0])
 ((go k impl_within [.int .i64 b,.int .i64 0,.int .i64 c]).bind fun r1=>
 cond (!bit (nth r1 0))
 (some [.int .i64 0])
 ((go k impl_within [.int .i64 a,.int .i64 0,.int .i64 (IntKind.wrap .i64 (1000*c))]).bind fun r2=>
 cond (!bit (nth r2 0))
 (some [.int .i64 0])
 (cond (!decide (c=0))
 (some [.int .i64 (IntKind.wrap .i64 (Int.tdiv (IntKind.wrap .i64 (a*b)) c))])
 none))):=by kernel_rfl
def qyb (x0 x1 x2:Int)(z3:Bool)(l4:L3)(x5:Int)(z6:Bool)(l7:LI):St:=⟨fill 26 [(1,.int .i64 x0),(2,.ptr 1 0 0),(5,.sl 2 none),(11,.int .i64 x1),(12,.int .i64 x2)],[],[.arr false z3 (.r3 l4),.box true [.int .i64 x5,.sl 0 none],.arr true z6 (.ints .i64 l7)]⟩
theorem qjo (k:Nat)(a0:Int)(a1z:Bool)(a1:L3)(b:Int):go (k+1) impl_Mesh_active [.agg [.int .i64 a0,.arr false a1z (.r3 a1)],.int .i64 b]=
 lp k impl_Mesh_active [] [] 3 k (qyb b (IntKind.wrap .i64 (nI (List.length a1) - 1)) 0 a1z a1 a0 false []):=by kernel_rfl
theorem qqr (k n:Nat)(fu:FU)(x0 x1 x2:Int)(z3:Bool)(l4:L3)(x5:Int)(z6:Bool)(l7:LI):lp k impl_Mesh_active [] fu 3 (n+1) (qyb x0 x1 x2 z3 l4 x5 z6 l7)=
 cond (decide (x2<x1))
 ((go k impl_Mesh_faceLevel [.agg [.int .i64 x5,.arr false z3 (.r3 l4)],.int .i64 x2]).bind fun r0=>
 (go k impl_IsActive [.int .i64 x0,.int .i64 (D.toInt (nth r0 0))]).bind fun r1=>
 cond (bit (nth r1 0))
 (cond (decide (List.length (l7++[x2])≤bigLen))
 (lp k impl_Mesh_active [] fu 3 n (qyb x0 x1 (IntKind.wrap .i64 (x2+1)) z3 l4 x5 (z6&&decide (List.length (l7++[x2])=0)) (l7++[x2])))
 none)
 (lp k impl_Mesh_active [] fu 3 n (qyb x0 x1 (IntKind.wrap .i64 (x2+1)) z3 l4 x5 z6 l7)))
 (some [.arr true z6 (.ints .i64 l7)]):=by kernel_rfl
def qyp (x0 x1:Int)(z2:Bool)(l3:L3)(z4:Bool)(l5:LI)(z6:Bool)(l7:LI)(z8:Bool)(l9:LI)(x10:Int)(z11:Bool)(l12:LI)(z13:Bool)(l14:LI)(z15:Bool)(l16:LI)(z17:Bool)(l18:LI):St:=⟨fill 155 [(0,.ptr 4 0 0),(4,.sl 5 none),(5,.sl 6 none),(9,.ptr 8 0 0),(10,.ptr 10 0 0),(11,.fn impl_State_move_1 [.ptr 8 0 0,.ptr 10 0 0]),(69,.int .i64 x0),(70,.int .i64 x1)],[.ptr 4 0 0],[.arr true z2 (.r3 l3),.arr true z4 (.ints .i64 l5),.arr true z6 (.ints .i64 l7),.arr true z8 (.ints .i64 l9),sB true 0 x10,.arr true z11 (.ints .i64 l12),.arr true z13 (.ints .i64 l14),.arr true z15 (.ints .i64 l16),.box true [.sl 7 none],.arr true z17 (.ints .i64 l18),.box true [.sl 9 none]]⟩
def qyq (x0 x1:Int)(z2:Bool)(l3:L3)(z4:Bool)(l5:LI)(z6:Bool)(l7:LI)(z8:Bool)(l9:LI)(x10:Int)(z11:Bool)(l12:LI)(z13:Bool)(l14:LI):St:=⟨fill 155 [(0,.ptr 4 0 0),(9,.ptr 6 0 0),(10,.ptr 8 0 0),(124,.int .i64 x0),(125,.int .i64 x1)],[.ptr 4 0 0],[.arr true z2 (.r3 l3),.arr true z4 (.ints .i64 l5),.arr true z6 (.ints .i64 l7),.arr true z8 (.ints .i64 l9),sB true 0 x10,.arr true z11 (.ints .i64 l12),.box true [.sl 5 none],.arr true z13 (.ints .i64 l14),.box true [.sl 7 none]]⟩
def qyr (x0 x1:Int)(z2:Bool)(l3:L3)(z4:Bool)(l5:LI)(z6:Bool)(l7:LI)(z8:Bool)(l9:LI)(x10:Int)(z11:Bool)(l12:LI)(z13:Bool)(l14:LI)(z15:Bool)(l16:LI):St:=⟨fill 155 [(0,.ptr 4 0 0),(4,.sl 5 none),(5,.sl 6 none),(28,.sl 7 none),(29,.int .i64 x0),(30,.int .i64 x1)],[.ptr 4 0 0],[.arr true z2 (.r3 l3),.arr true z4 (.ints .i64 l5),.arr true z6 (.ints .i64 l7),.arr true z8 (.ints .i64 l9),sB true 0 x10,.arr true z11 (.ints .i64 l12),.arr true z13 (.ints .i64 l14),.arr false z15 (.ints .i64 l16)]⟩
theorem qkj (k:Nat)(a0:Int)(a1z:Bool)(a1:L3)(a2z:Bool)(a2:LI)(a3z:Bool)(a3:LI)(a4z:Bool)(a4:LI)(bz:Bool)(b:LI):go (k+1) impl_State_move [.ptr true [.int .i64 a0,.arr true a1z (.r3 a1),.arr true a2z (.ints .i64 a2),.arr true a3z (.ints .i64 a3),.arr true a4z (.ints .i64 a4)],.arr false bz (.ints .i64 b)]=
 cond (decide (0≤nI (List.length a2))&&decide (nI (List.length a2)≤nI (List.length a2))&&decide (nI (List.length a2)≤nI bigLen))
 (cond (decide (0≤nI (List.length a2))&&decide (nI (List.length a2)≤nI (List.length a2))&&decide (nI (List.length a2)≤nI bigLen))
 (lp k impl_State_move [.ptr true [.int .i64 a0,.arr true a1z (.r3 a1),.arr true a2z (.ints .i64 a2),.arr true a3z (.ints .i64 a3),.arr true a4z (.ints .i64 a4)]] [] 2 k (qyr (nI (List.length b)) 0 a1z a1 a2z a2 a3z a3 a4z a4 a0 false (List.replicate (Int.toNat (nI (List.length a2))) 0) false (List.replicate (Int.toNat (nI (List.length a2))) 0) bz b))
 none)
 none:=by kernel_rfl
theorem qq4 (k n:Nat)(fu:FU)(a0:Int)(a1z:Bool)(a1:L3)(a2z:Bool)(a2:LI)(a3z:Bool)(a3:LI)(a4z:Bool)(a4:LI)(x0 x1:Int)(z2:Bool)(l3:L3)(z4:Bool)(l5:LI)(z6:Bool)(l7:LI)(z8:Bool)(l9:LI)(x10:Int)(z11:Bool)(l12:LI)(z13:Bool)(l14:LI)(z15:Bool)(l16:LI)(z17:Bool)(l18:LI):lp k impl_State_move [.ptr true [.int .i64 a0,.arr true a1z (.r3 a1),.arr true a2z (.ints .i64 a2),.arr true a3z (.ints .i64 a3),.arr true a4z (.ints .i64 a4)]] fu 12 (n+1) (qyp x0 x1 z2 l3 z4 l5 z6 l7 z8 l9 x10 z11 l12 z13 l14 z15 l16 z17 l18)=
 cond (decide (x1<x0))
 (cond (decide (0≤x1)&&decide (x1<nI (List.length l7)))
 (cond (decide (0≤x1)&&decide (x1<nI (List.length l5)))
 (cond (decide (0≤x1)&&decide (x1<nI (List.length l12)))
 (cond (decide (0≤x1)&&decide (x1<nI (List.length l14)))
 ((go k impl_LeafOut [.int .i64 (List.getD l7 (Int.toNat x1) 0),.int .i64 (List.getD l5 (Int.toNat x1) 0),.int .i64 (List.getD l12 (Int.toNat x1) 0),.int .i64 (List.getD l14 (Int.toNat x1) 0)]).bind fun r0=>
 cond (decide (0≤x1)&&decide (x1<nI (List.length l12)))
 ((go k impl_State_move_1 [.int .i64 x1,.int .i64 (IntKind.wrap .i64 (x1+1)),.int .i64 (List.getD l12 (Int.toNat x1) 0),.int .i64 (D.toInt (nth r0 0)),.ptr true [.arr true z15 (.ints .i64 l16)],.ptr true [.arr true z17 (.ints .i64 l18)]]).bind fun r1=>
 cond (decide (0≤x1)&&decide (x1<nI (List.length l14)))
 ((go k impl_State_move_1 [.int .i64 x1,.int .i64 (IntKind.wrap .i64 (x1 - 1)),.int .i64 (List.getD l14 (Int.toNat x1) 0),.int .i64 (D.toInt (nth r0 1)),.ptr true [.arr true (D.nil (D.cell 0 (nth r1 0))) (.ints .i64 (D.ints (D.cell 0 (nth r1 0))))],.ptr true [.arr true (D.nil (D.cell 0 (nth r1 1))) (.ints .i64 (D.ints (D.cell 0 (nth r1 1))))]]).bind fun r2=>
 lp k impl_State_move [.ptr true [.int .i64 a0,.arr true a1z (.r3 a1),.arr true a2z (.ints .i64 a2),.arr true a3z (.ints .i64 a3),.arr true a4z (.ints .i64 a4)]] fu 12 n (qyp x0 (IntKind.wrap .i64 (x1+1)) z2 l3 z4 l5 z6 l7 z8 l9 x10 z11 l12 z13 l14 (D.nil (D.cell 0 (nth r2 0))) (D.ints (D.cell 0 (nth r2 0))) (D.nil (D.cell 0 (nth r2 1))) (D.ints (D.cell 0 (nth r2 1)))))
 none)
 none)
 none)
 none)
 none)
 none)
 (lp k impl_State_move [.ptr true [.int .i64 a0,.arr true a1z (.r3 a1),.arr true a2z (.ints .i64 a2),.arr true a3z (.ints .i64 a3),.arr true a4z (.ints .i64 a4)]] fu 19 k (qyq (nI (List.length l5)) 0 z2 l3 z4 l5 z6 l7 z8 l9 x10 z15 l16 z17 l18)):=by kernel_rfl
theorem qq5 (k n:Nat)(fu:FU)(a0:Int)(a1z:Bool)(a1:L3)(a2z:Bool)(a2:LI)(a3z:Bool)(a3:LI)(a4z:Bool)(a4:LI)(x0 x1:Int)(z2:Bool)(l3:L3)(z4:Bool)(l5:LI)(z6:Bool)(l7:LI)(z8:Bool)(l9:LI)(x10:Int)(z11:Bool)(l12:LI)(z13:Bool)(l14:LI):lp k impl_State_move [.ptr true [.int .i64 a0,.arr true a1z (.r3 a1),.arr true a2z (.ints .i64 a2),.arr true a3z (.ints .i64 a3),.arr true a4z (.ints .i64 a4)]] fu 19 (n+1) (qyq x0 x1 z2 l3 z4 l5 z6 l7 z8 l9 x10 z11 l12 z13 l14)=
 cond (decide (x1<x0))
 (cond (decide (0≤x1)&&decide (x1<nI (List.length l5)))
 (cond (decide (0≤x1)&&decide (x1<nI (List.length l12)))
 (cond (decide (0≤x1)&&decide (x1<nI (List.length l5)))
 (cond (decide (0≤x1)&&decide (x1<nI (List.length l7)))
 (cond (decide (0≤x1)&&decide (x1<nI (List.length l14)))
 (cond (decide (0≤x1)&&decide (x1<nI (List.length l7)))
 (lp k impl_State_move [.ptr true [.int .i64 a0,.arr true a1z (.r3 a1),.arr true a2z (.ints .i64 a2),.arr true a3z (.ints .i64 a3),.arr true a4z (.ints .i64 a4)]] fu 19 n (qyq x0 (IntKind.wrap .i64 (x1+1)) z2 l3 z4 (List.set l5 (Int.toNat x1) (IntKind.wrap .i64 (List.getD l5 (Int.toNat x1) 0+List.getD l12 (Int.toNat x1) 0))) z6 (List.set l7 (Int.toNat x1) (IntKind.wrap .i64 (List.getD l7 (Int.toNat x1) 0+List.getD l14 (Int.toNat x1) 0))) z8 l9 x10 z11 l12 z13 l14))
 none)
 none)
 none)
 none)
 none)
 none)
 (some [.ptr true [.int .i64 x10,.arr true z2 (.r3 l3),.arr true z4 (.ints .i64 l5),.arr true z6 (.ints .i64 l7),.arr true z8 (.ints .i64 l9)]]):=by kernel_rfl
theorem qq6 (k n:Nat)(fu:FU)(a0:Int)(a1z:Bool)(a1:L3)(a2z:Bool)(a2:LI)(a3z:Bool)(a3:LI)(a4z:Bool)(a4:LI)(x0 x1:Int)(z2:Bool)(l3:L3)(z4:Bool)(l5:LI)(z6:Bool)(l7:LI)(z8:Bool)(l9:LI)(x10:Int)(z11:Bool)(l12:LI)(z13:Bool)(l14:LI)(z15:Bool)(l16:LI):lp k impl_State_move [.ptr true [.int .i64 a0,.arr true a1z (.r3 a1),.arr true a2z (.ints .i64 a2),.arr true a3z (.ints .i64 a3),.arr true a4z (.ints .i64 a4)]] fu 2 (n+1) (qyr x0 x1 z2 l3 z4 l5 z6 l7 z8 l9 x10 z11 l12 z13 l14 z15 l16)=
 cond (decide (x1<x0))
 (cond (decide (0≤x1)&&decide (x1<nI (List.length l16)))
 ((go k impl_State_flux [sV false x10 z2 l3 z4 l5 z6 l7 z8 l9,.int .i64 (List.getD l16 (Int.toNat x1) 0)]).bind fun r0=>
 cond (decide (0<D.toInt (nth r0 0)))
 (cond (decide (0≤List.getD l16 (Int.toNat x1) 0)&&decide (List.getD l16 (Int.toNat x1) 0<nI (List.length l12)))
 (lp k impl_State_move [.ptr true [.int .i64 a0,.arr true a1z (.r3 a1),.arr true a2z (.ints .i64 a2),.arr true a3z (.ints .i64 a3),.arr true a4z (.ints .i64 a4)]] fu 2 n (qyr x0 (IntKind.wrap .i64 (x1+1)) z2 l3 z4 l5 z6 l7 z8 l9 x10 z11 (List.set l12 (Int.toNat (List.getD l16 (Int.toNat x1) 0)) (D.toInt (nth r0 0))) z13 l14 z15 l16))
 none)
 (cond (decide (0≤IntKind.wrap .i64 (List.getD l16 (Int.toNat x1) 0+1))&&decide (IntKind.wrap .i64 (List.getD l16 (Int.toNat x1) 0+1)<nI (List.length l14)))
 (lp k impl_State_move [.ptr true [.int .i64 a0,.arr true a1z (.r3 a1),.arr true a2z (.ints .i64 a2),.arr true a3z (.ints .i64 a3),.arr true a4z (.ints .i64 a4)]] fu 2 n (qyr x0 (IntKind.wrap .i64 (x1+1)) z2 l3 z4 l5 z6 l7 z8 l9 x10 z11 l12 z13 (List.set l14 (Int.toNat (IntKind.wrap .i64 (List.getD l16 (Int.toNat x1) 0+1))) (IntKind.wrap .i64 (0 - D.toInt (nth r0 0)))) z15 l16))
 none))
 none)
 (cond (decide (0≤nI (List.length l5))&&decide (nI (List.length l5)≤nI (List.length l5))&&decide (nI (List.length l5)≤nI bigLen))
 (cond (decide (0≤nI (List.length l5))&&decide (nI (List.length l5)≤nI (List.length l5))&&decide (nI (List.length l5)≤nI bigLen))
 (lp k impl_State_move [.ptr true [.int .i64 a0,.arr true a1z (.r3 a1),.arr true a2z (.ints .i64 a2),.arr true a3z (.ints .i64 a3),.arr true a4z (.ints .i64 a4)]] fu 12 k (qyp (nI (List.length l5)) 0 z2 l3 z4 l5 z6 l7 z8 l9 x10 z11 l12 z13 l14 false (List.replicate (Int.toNat (nI (List.length l5))) 0) false (List.replicate (Int.toNat (nI (List.length l5))) 0)))
 none)
 none):=by kernel_rfl
theorem qkk (k:Nat)(v0 v1 v2 v3:Int)(v4:Bool)(v5:LI)(v6:Bool)(v7:LI):go (k+1) impl_State_move_1 [.int .i64 v0,.int .i64 v1,.int .i64 v2,.int .i64 v3,.ptr true [.arr true v4 (.ints .i64 v5)],.ptr true [.arr true v6 (.ints .i64 v7)]]=
 cond (decide (0<v2))
 (cond (decide (0≤v0)&&decide (v0<nI (List.length v5)))
 (cond (decide (0≤v0)&&decide (v0<nI (List.length v5)))
 (cond (decide (0≤v1)&&decide (v1<nI (List.length (List.set v5 (Int.toNat v0) (IntKind.wrap .i64 (List.getD v5 (Int.toNat v0) 0 - v2))))))
 (cond (decide (0≤v1)&&decide (v1<nI (List.length (List.set v5 (Int.toNat v0) (IntKind.wrap .i64 (List.getD v5 (Int.toNat v0) 0 - v2))))))
 (cond (decide (0≤v0)&&decide (v0<nI (List.length v7)))
 (cond (decide (0≤v0)&&decide (v0<nI (List.length v7)))
 (cond (decide (0≤v1)&&decide (v1<nI (List.length (List.set v7 (Int.toNat v0) (IntKind.wrap .i64 (List.getD v7 (Int.toNat v0) 0 - v3))))))
 (cond (decide (0≤v1)&&decide (v1<nI (List.length (List.set v7 (Int.toNat v0) (IntKind.wrap .i64 (List.getD v7 (Int.toNat v0) 0 - v3))))))
 (some [.ptr true [.arr true v4 (.ints .i64 (List.set (List.set v5 (Int.toNat v0) (IntKind.wrap .i64 (List.getD v5 (Int.toNat v0) 0 - v2))) (Int.toNat v1) (IntKind.wrap .i64 (List.getD (List.set v5 (Int.toNat v0) (IntKind.wrap .i64 (List.getD v5 (Int.toNat v0) 0 - v2))) (Int.toNat v1) 0+v2))))],.ptr true [.arr true v6 (.ints .i64 (List.set (List.set v7 (Int.toNat v0) (IntKind.wrap .i64 (List.getD v7 (Int.toNat v0) 0 - v3))) (Int.toNat v1) (IntKind.wrap .i64 (List.getD (List.set v7 (Int.toNat v0) (IntKind.wrap .i64 (List.getD v7 (Int.toNat v0) 0 - v3))) (Int.toNat v1) 0+v3))))]])
 none)
 none)
 none)
 none)
 none)
 none)
 none)
 none)
 (some [.ptr true [.arr true v4 (.ints .i64 v5)],.ptr true [.arr true v6 (.ints .i64 v7)]]):=by kernel_rfl

end Go.Proofs.YtjfjniebmdafeaaGreatDoor
end
section
namespace Go.Proofs.YtjfjniebmdafeaaGreatDoor
open Go.Ev
theorem qnf (k:Nat)(a b c d e f:Int):go (k+1) spec_l09Pair [.int .i64 a,.int .i64 b,.int .i64 c,.int .i64 d,.int .i64 e,.int .i64 f]=
 (go k spec_WidthOf [.int .i64 (if f>e then f else e)]).bind fun r0=>
 (go k spec_WidthOf [.int .i64 e]).bind fun r1=>
 (go k spec_WidthOf [.int .i64 f]).bind fun r2=>
 (go k spec_DivTrunc [.int .i64 (IntKind.wrap .i64 (IntKind.wrap .i64 (a - b)*D.toInt (nth r0 0))),.int .i64 (IntKind.wrap .i64 (32*IntKind.wrap .i64 (D.toInt (nth r1 0)+D.toInt (nth r2 0))))]).bind fun r3=>
 some [.int .i64 (if IntKind.wrap .i64 (0 - IntKind.wrap .i64 (Int.tdiv d 4))>if IntKind.wrap .i64 (Int.tdiv c 4)<D.toInt (nth r3 0) then IntKind.wrap .i64 (Int.tdiv c 4) else D.toInt (nth r3 0) then IntKind.wrap .i64 (0 - IntKind.wrap .i64 (Int.tdiv d 4)) else if IntKind.wrap .i64 (Int.tdiv c 4)<D.toInt (nth r3 0) then IntKind.wrap .i64 (Int.tdiv c 4) else D.toInt (nth r3 0))]:=by kernel_rfl
theorem qnd (k:Nat)(a0:Int)(a1z:Bool)(a1:L3)(a2z:Bool)(a2:LI)(a3z:Bool)(a3:LI)(a4z:Bool)(a4:LI)(b:Int):go (k+1) spec_l09Flux [sV false a0 a1z a1 a2z a2 a3z a3 a4z a4,.int .i64 b]=
 (go k spec_l09Surface [sV false a0 a1z a1 a2z a2 a3z a3 a4z a4,.int .i64 b]).bind fun r0=>
 (go k spec_l09Surface [sV false a0 a1z a1 a2z a2 a3z a3 a4z a4,.int .i64 (IntKind.wrap .i64 (b+1))]).bind fun r1=>
 cond (decide (0≤b)&&decide (b<nI (List.length a2)))
 (cond (decide (0≤IntKind.wrap .i64 (b+1))&&decide (IntKind.wrap .i64 (b+1)<nI (List.length a2)))
 (cond (decide (0≤b)&&decide (b<nI (List.length a1)))
 (cond (decide (0≤IntKind.wrap .i64 (b+1))&&decide (IntKind.wrap .i64 (b+1)<nI (List.length a1)))
 ((go k spec_l09Pair [.int .i64 (D.toInt (nth r0 0)),.int .i64 (D.toInt (nth r1 0)),.int .i64 (List.getD a2 (Int.toNat b) 0),.int .i64 (List.getD a2 (Int.toNat (IntKind.wrap .i64 (b+1))) 0),.int .i64 (Prod.fst (Prod.snd (List.getD a1 (Int.toNat b) zz3))),.int .i64 (Prod.fst (Prod.snd (List.getD a1 (Int.toNat (IntKind.wrap .i64 (b+1))) zz3)))]).bind fun r2=>
 some [.int .i64 (D.toInt (nth r2 0))])
 none)
 none)
 none)
 none:=by kernel_rfl
theorem qmd (k:Nat)(a b c d:Int):go (k+1) spec_LeafOut [.int .i64 a,.int .i64 b,.int .i64 c,.int .i64 d]=
 (go k spec_l01In [.int .i64 b,.int .i64 1,.int .i64 10000000]).bind fun r0=>
 cond (!bit (nth r0 0))
 (some [.int .i64 0,.int .i64 0])
 ((go k spec_l01In [.int .i64 a,.int .i64 0,.int .i64 (IntKind.wrap .i64 (1000*b))]).bind fun r1=>
 cond (!bit (nth r1 0))
 (some [.int .i64 0,.int .i64 0])
 ((go k spec_l01In [.int .i64 c,.int .i64 0,.int .i64 b]).bind fun r2=>
 cond (!bit (nth r2 0))
 (some [.int .i64 0,.int .i64 0])
 ((go k spec_l01In [.int .i64 d,.int .i64 0,.int .i64 (IntKind.wrap .i64 (b - c))]).bind fun r3=>
 cond (!bit (nth r3 0))
 (some [.int .i64 0,.int .i64 0])
 ((go k spec_ShareOut [.int .i64 a,.int .i64 c,.int .i64 b]).bind fun r4=>
 (go k spec_ShareOut [.int .i64 a,.int .i64 (IntKind.wrap .i64 (c+d)),.int .i64 b]).bind fun r5=>
 some [.int .i64 (D.toInt (nth r4 0)),.int .i64 (IntKind.wrap .i64 (D.toInt (nth r5 0) - D.toInt (nth r4 0)))])))):=by kernel_rfl
theorem qmk (k:Nat)(a b c:Int):go (k+1) spec_ShareOut [.int .i64 a,.int .i64 b,.int .i64 c]=
 (go k spec_l01In [.int .i64 c,.int .i64 1,.int .i64 10000000]).bind fun r0=>
 cond (!bit (nth r0 0))
 (some [.int .i64 0])
 ((go k spec_l01In [.int .i64 b,.int .i64 0,.int .i64 c]).bind fun r1=>
 cond (!bit (nth r1 0))
 (some [.int .i64 0])
 ((go k spec_l01In [.int .i64 a,.int .i64 0,.int .i64 (IntKind.wrap .i64 (1000*c))]).bind fun r2=>
 cond (!bit (nth r2 0))
 (some [.int .i64 0])
 (cond (!decide (c=0))
 (some [.int .i64 (IntKind.wrap .i64 (Int.tdiv (IntKind.wrap .i64 (a*b)) c))])
 none))):=by kernel_rfl
theorem qlz (k:Nat)(a b:Int):go (k+1) spec_DivTrunc [.int .i64 a,.int .i64 b]=
 cond (decide (b≤0))
 (some [.int .i64 0])
 (cond (!decide (b=0))
 (some [.int .i64 (IntKind.wrap .i64 (Int.tdiv a b))])
 none):=by kernel_rfl
def qzo (x0:Int)(z1:Bool)(l2:L3)(z3:Bool)(l4:LI)(z5:Bool)(l6:LI)(z7:Bool)(l8:LI)(x9:Int)(z10:Bool)(l11:L3)(z12:Bool)(l13:LI)(z14:Bool)(l15:LI)(z16:Bool)(l17:LI)(x18:Int)(z19:Bool)(l20:L3)(z21:Bool)(l22:LI)(z23:Bool)(l24:LI)(z25:Bool)(l26:LI)(x27:Int)(z28:Bool)(l29:LI):St:=⟨fill 151 [(2,.ptr 4 0 0),(4,.ptr 9 0 0),(5,.ptr 14 0 0),(6,.sl 15 none),(8,.int .i64 x0)],[],[.arr false z1 (.r3 l2),.arr false z3 (.ints .i64 l4),.arr false z5 (.ints .i64 l6),.arr false z7 (.ints .i64 l8),sB true 0 x9,.arr true z10 (.r3 l11),.arr true z12 (.ints .i64 l13),.arr true z14 (.ints .i64 l15),.arr true z16 (.ints .i64 l17),sB true 5 x18,.arr true z19 (.r3 l20),.arr true z21 (.ints .i64 l22),.arr true z23 (.ints .i64 l24),.arr true z25 (.ints .i64 l26),sB true 10 x27,.arr true z28 (.ints .i64 l29)]⟩
def qzp (x0 x1:Int)(z2:Bool)(l3:L3)(z4:Bool)(l5:LI)(z6:Bool)(l7:LI)(z8:Bool)(l9:LI)(x10:Int)(z11:Bool)(l12:L3)(z13:Bool)(l14:LI)(z15:Bool)(l16:LI)(z17:Bool)(l18:LI)(x19:Int)(z20:Bool)(l21:L3)(z22:Bool)(l23:LI)(z24:Bool)(l25:LI)(z26:Bool)(l27:LI)(x28:Int)(z29:Bool)(l30:LI):St:=⟨fill 151 [(1,.int .i64 x0),(2,.ptr 4 0 0),(4,.ptr 9 0 0),(5,.ptr 14 0 0),(6,.sl 15 none),(7,.int .i64 x1)],[],[.arr false z2 (.r3 l3),.arr false z4 (.ints .i64 l5),.arr false z6 (.ints .i64 l7),.arr false z8 (.ints .i64 l9),sB true 0 x10,.arr true z11 (.r3 l12),.arr true z13 (.ints .i64 l14),.arr true z15 (.ints .i64 l16),.arr true z17 (.ints .i64 l18),sB true 5 x19,.arr true z20 (.r3 l21),.arr true z22 (.ints .i64 l23),.arr true z24 (.ints .i64 l25),.arr true z26 (.ints .i64 l27),sB true 10 x28,.arr true z29 (.ints .i64 l30)]⟩
theorem qnh (k:Nat)(a0:Int)(a1z:Bool)(a1:L3)(a2z:Bool)(a2:LI)(a3z:Bool)(a3:LI)(a4z:Bool)(a4:LI)(b:Int):go (k+1) spec_l11Step [sV false a0 a1z a1 a2z a2 a3z a3 a4z a4,.int .i64 b]=
 (go k spec_l07Copy [sV false a0 a1z a1 a2z a2 a3z a3 a4z a4]).bind fun r0=>
 cond (decide (0≤nI (List.length a2))&&decide (nI (List.length a2)≤nI (List.length a2))&&decide (nI (List.length a2)≤nI bigLen))
 (lp k spec_l11Step [] [] 4 k (sA (qzp b 0 a1z a1 a2z a2 a3z a3 a4z a4 a0 true [] true [] true [] true [] 0) (nth r0 0) false (List.replicate (Int.toNat (nI (List.length a2))) 0)))
 none:=by kernel_rfl
theorem qr3 (k n:Nat)(fu:FU)(x0:Int)(z1:Bool)(l2:L3)(z3:Bool)(l4:LI)(z5:Bool)(l6:LI)(z7:Bool)(l8:LI)(x9:Int)(z10:Bool)(l11:L3)(z12:Bool)(l13:LI)(z14:Bool)(l15:LI)(z16:Bool)(l17:LI)(x18:Int)(z19:Bool)(l20:L3)(z21:Bool)(l22:LI)(z23:Bool)(l24:LI)(z25:Bool)(l26:LI)(x27:Int)(z28:Bool)(l29:LI):lp k spec_l11Step [] fu 11 (n+1) (qzo x0 z1 l2 z3 l4 z5 l6 z7 l8 x9 z10 l11 z12 l13 z14 l15 z16 l17 x18 z19 l20 z21 l22 z23 l24 z25 l26 x27 z28 l29)=
 cond (decide (x0<nI (List.length l4)))
 (cond (decide (0≤x0)&&decide (x0<nI (List.length l29)))
 (cond (decide (0<x0))
 (cond (decide (0≤IntKind.wrap .i64 (x0 - 1))&&decide (IntKind.wrap .i64 (x0 - 1)<nI (List.length l29)))
 (cond (decide (0≤x0)&&decide (x0<nI (List.length l6)))
 (cond (decide (0≤x0)&&decide (x0<nI (List.length l4)))
 ((go k spec_LeafOut [.int .i64 (List.getD l6 (Int.toNat x0) 0),.int .i64 (List.getD l4 (Int.toNat x0) 0),.int .i64 (if 0>List.getD l29 (Int.toNat x0) 0 then 0 else List.getD l29 (Int.toNat x0) 0),.int .i64 (if 0>IntKind.wrap .i64 (0 - List.getD l29 (Int.toNat (IntKind.wrap .i64 (x0 - 1))) 0) then 0 else IntKind.wrap .i64 (0 - List.getD l29 (Int.toNat (IntKind.wrap .i64 (x0 - 1))) 0))]).bind fun r0=>
 cond (decide (0≤x0)&&decide (x0<nI (List.length l24)))
 (cond (decide (0≤x0)&&decide (x0<nI (List.length l24)))
 (cond (decide (0<if 0>List.getD l29 (Int.toNat x0) 0 then 0 else List.getD l29 (Int.toNat x0) 0))
 (cond (decide (0≤IntKind.wrap .i64 (x0+1))&&decide (IntKind.wrap .i64 (x0+1)<nI (List.length (List.set l24 (Int.toNat x0) (IntKind.wrap .i64 (IntKind.wrap .i64 (List.getD l24 (Int.toNat x0) 0 - D.toInt (nth r0 0)) - D.toInt (nth r0 1)))))))
 (cond (decide (0≤IntKind.wrap .i64 (x0+1))&&decide (IntKind.wrap .i64 (x0+1)<nI (List.length (List.set l24 (Int.toNat x0) (IntKind.wrap .i64 (IntKind.wrap .i64 (List.getD l24 (Int.toNat x0) 0 - D.toInt (nth r0 0)) - D.toInt (nth r0 1)))))))
 (cond (decide (0<if 0>IntKind.wrap .i64 (0 - List.getD l29 (Int.toNat (IntKind.wrap .i64 (x0 - 1))) 0) then 0 else IntKind.wrap .i64 (0 - List.getD l29 (Int.toNat (IntKind.wrap .i64 (x0 - 1))) 0)))
 (cond (decide (0≤IntKind.wrap .i64 (x0 - 1))&&decide (IntKind.wrap .i64 (x0 - 1)<nI (List.length (List.set (List.set l24 (Int.toNat x0) (IntKind.wrap .i64 (IntKind.wrap .i64 (List.getD l24 (Int.toNat x0) 0 - D.toInt (nth r0 0)) - D.toInt (nth r0 1)))) (Int.toNat (IntKind.wrap .i64 (x0+1))) (IntKind.wrap .i64 (List.getD (List.set l24 (Int.toNat x0) (IntKind.wrap .i64 (IntKind.wrap .i64 (List.getD l24 (Int.toNat x0) 0 - D.toInt (nth r0 0)) - D.toInt (nth r0 1)))) (Int.toNat (IntKind.wrap .i64 (x0+1))) 0+D.toInt (nth r0 0)))))))
 (cond (decide (0≤IntKind.wrap .i64 (x0 - 1))&&decide (IntKind.wrap .i64 (x0 - 1)<nI (List.length (List.set (List.set l24 (Int.toNat x0) (IntKind.wrap .i64 (IntKind.wrap .i64 (List.getD l24 (Int.toNat x0) 0 - D.toInt (nth r0 0)) - D.toInt (nth r0 1)))) (Int.toNat (IntKind.wrap .i64 (x0+1))) (IntKind.wrap .i64 (List.getD (List.set l24 (Int.toNat x0) (IntKind.wrap .i64 (IntKind.wrap .i64 (List.getD l24 (Int.toNat x0) 0 - D.toInt (nth r0 0)) - D.toInt (nth r0 1)))) (Int.toNat (IntKind.wrap .i64 (x0+1))) 0+D.toInt (nth r0 0)))))))
 (lp k spec_l11Step [] fu 11 n (qzo (IntKind.wrap .i64 (x0+1)) z1 l2 z3 l4 z5 l6 z7 l8 x9 z10 l11 z12 l13 z14 l15 z16 l17 x18 z19 l20 z21 l22 z23 (List.set (List.set (List.set l24 (Int.toNat x0) (IntKind.wrap .i64 (IntKind.wrap .i64 (List.getD l24 (Int.toNat x0) 0 - D.toInt (nth r0 0)) - D.toInt (nth r0 1)))) (Int.toNat (IntKind.wrap .i64 (x0+1))) (IntKind.wrap .i64 (List.getD (List.set l24 (Int.toNat x0) (IntKind.wrap .i64 (IntKind.wrap .i64 (List.getD l24 (Int.toNat x0) 0 - D.toInt (nth r0 0)) - D.toInt (nth r0 1)))) (Int.toNat (IntKind.wrap .i64 (x0+1))) 0+D.toInt (nth r0 0)))) (Int.toNat (IntKind.wrap .i64 (x0 - 1))) (IntKind.wrap .i64 (List.getD (List.set (List.set l24 (Int.toNat x0) (IntKind.wrap .i64 (IntKind.wrap .i64 (List.getD l24 (Int.toNat x0) 0 - D.toInt (nth r0 0)) - D.toInt (nth r0 1)))) (Int.toNat (IntKind.wrap .i64 (x0+1))) (IntKind.wrap .i64 (List.getD (List.set l24 (Int.toNat x0) (IntKind.wrap .i64 (IntKind.wrap .i64 (List.getD l24 (Int.toNat x0) 0 - D.toInt (nth r0 0)) - D.toInt (nth r0 1)))) (Int.toNat (IntKind.wrap .i64 (x0+1))) 0+D.toInt (nth r0 0)))) (Int.toNat (IntKind.wrap .i64 (x0 - 1))) 0+D.toInt (nth r0 1)))) z25 l26 x27 z28 l29))
 none)
 none)
 (lp k spec_l11Step [] fu 11 n (qzo (IntKind.wrap .i64 (x0+1)) z1 l2 z3 l4 z5 l6 z7 l8 x9 z10 l11 z12 l13 z14 l15 z16 l17 x18 z19 l20 z21 l22 z23 (List.set (List.set l24 (Int.toNat x0) (IntKind.wrap .i64 (IntKind.wrap .i64 (List.getD l24 (Int.toNat x0) 0 - D.toInt (nth r0 0)) - D.toInt (nth r0 1)))) (Int.toNat (IntKind.wrap .i64 (x0+1))) (IntKind.wrap .i64 (List.getD (List.set l24 (Int.toNat x0) (IntKind.wrap .i64 (IntKind.wrap .i64 (List.getD l24 (Int.toNat x0) 0 - D.toInt (nth r0 0)) - D.toInt (nth r0 1)))) (Int.toNat (IntKind.wrap .i64 (x0+1))) 0+D.toInt (nth r0 0)))) z25 l26 x27 z28 l29)))
 none)
 none)
 (cond (decide (0<if 0>IntKind.wrap .i64 (0 - List.getD l29 (Int.toNat (IntKind.wrap .i64 (x0 - 1))) 0) then 0 else IntKind.wrap .i64 (0 - List.getD l29 (Int.toNat (IntKind.wrap .i64 (x0 - 1))) 0)))
 (cond (decide (0≤IntKind.wrap .i64 (x0 - 1))&&decide (IntKind.wrap .i64 (x0 - 1)<nI (List.length (List.set l24 (Int.toNat x0) (IntKind.wrap .i64 (IntKind.wrap .i64 (List.getD l24 (Int.toNat x0) 0 - D.toInt (nth r0 0)) - D.toInt (nth r0 1)))))))
 (cond (decide (0≤IntKind.wrap .i64 (x0 - 1))&&decide (IntKind.wrap .i64 (x0 - 1)<nI (List.length (List.set l24 (Int.toNat x0) (IntKind.wrap .i64 (IntKind.wrap .i64 (List.getD l24 (Int.toNat x0) 0 - D.toInt (nth r0 0)) - D.toInt (nth r0 1)))))))
 (lp k spec_l11Step [] fu 11 n (qzo (IntKind.wrap .i64 (x0+1)) z1 l2 z3 l4 z5 l6 z7 l8 x9 z10 l11 z12 l13 z14 l15 z16 l17 x18 z19 l20 z21 l22 z23 (List.set (List.set l24 (Int.toNat x0) (IntKind.wrap .i64 (IntKind.wrap .i64 (List.getD l24 (Int.toNat x0) 0 - D.toInt (nth r0 0)) - D.toInt (nth r0 1)))) (Int.toNat (IntKind.wrap .i64 (x0 - 1))) (IntKind.wrap .i64 (List.getD (List.set l24 (Int.toNat x0) (IntKind.wrap .i64 (IntKind.wrap .i64 (List.getD l24 (Int.toNat x0) 0 - D.toInt (nth r0 0)) - D.toInt (nth r0 1)))) (Int.toNat (IntKind.wrap .i64 (x0 - 1))) 0+D.toInt (nth r0 1)))) z25 l26 x27 z28 l29))
 none)
 none)
 (lp k spec_l11Step [] fu 11 n (qzo (IntKind.wrap .i64 (x0+1)) z1 l2 z3 l4 z5 l6 z7 l8 x9 z10 l11 z12 l13 z14 l15 z16 l17 x18 z19 l20 z21 l22 z23 (List.set l24 (Int.toNat x0) (IntKind.wrap .i64 (IntKind.wrap .i64 (List.getD l24 (Int.toNat x0) 0 - D.toInt (nth r0 0)) - D.toInt (nth r0 1)))) z25 l26 x27 z28 l29))))
 none)
 none)
 none)
 none)
 none)
 (cond (decide (0≤x0)&&decide (x0<nI (List.length l6)))
 (cond (decide (0≤x0)&&decide (x0<nI (List.length l4)))
 ((go k spec_LeafOut [.int .i64 (List.getD l6 (Int.toNat x0) 0),.int .i64 (List.getD l4 (Int.toNat x0) 0),.int .i64 (if 0>List.getD l29 (Int.toNat x0) 0 then 0 else List.getD l29 (Int.toNat x0) 0),.int .i64 0]).bind fun r1=>
 cond (decide (0≤x0)&&decide (x0<nI (List.length l24)))
 (cond (decide (0≤x0)&&decide (x0<nI (List.length l24)))
 (cond (decide (0<if 0>List.getD l29 (Int.toNat x0) 0 then 0 else List.getD l29 (Int.toNat x0) 0))
 (cond (decide (0≤IntKind.wrap .i64 (x0+1))&&decide (IntKind.wrap .i64 (x0+1)<nI (List.length (List.set l24 (Int.toNat x0) (IntKind.wrap .i64 (IntKind.wrap .i64 (List.getD l24 (Int.toNat x0) 0 - D.toInt (nth r1 0)) - D.toInt (nth r1 1)))))))
 (cond (decide (0≤IntKind.wrap .i64 (x0+1))&&decide (IntKind.wrap .i64 (x0+1)<nI (List.length (List.set l24 (Int.toNat x0) (IntKind.wrap .i64 (IntKind.wrap .i64 (List.getD l24 (Int.toNat x0) 0 - D.toInt (nth r1 0)) - D.toInt (nth r1 1)))))))
 (lp k spec_l11Step [] fu 11 n (qzo (IntKind.wrap .i64 (x0+1)) z1 l2 z3 l4 z5 l6 z7 l8 x9 z10 l11 z12 l13 z14 l15 z16 l17 x18 z19 l20 z21 l22 z23 (List.set (List.set l24 (Int.toNat x0) (IntKind.wrap .i64 (IntKind.wrap .i64 (List.getD l24 (Int.toNat x0) 0 - D.toInt (nth r1 0)) - D.toInt (nth r1 1)))) (Int.toNat (IntKind.wrap .i64 (x0+1))) (IntKind.wrap .i64 (List.getD (List.set l24 (Int.toNat x0) (IntKind.wrap .i64 (IntKind.wrap .i64 (List.getD l24 (Int.toNat x0) 0 - D.toInt (nth r1 0)) - D.toInt (nth r1 1)))) (Int.toNat (IntKind.wrap .i64 (x0+1))) 0+D.toInt (nth r1 0)))) z25 l26 x27 z28 l29))
 none)
 none)
 (lp k spec_l11Step [] fu 11 n (qzo (IntKind.wrap .i64 (x0+1)) z1 l2 z3 l4 z5 l6 z7 l8 x9 z10 l11 z12 l13 z14 l15 z16 l17 x18 z19 l20 z21 l22 z23 (List.set l24 (Int.toNat x0) (IntKind.wrap .i64 (IntKind.wrap .i64 (List.getD l24 (Int.toNat x0) 0 - D.toInt (nth r1 0)) - D.toInt (nth r1 1)))) z25 l26 x27 z28 l29)))
 none)
 none)
 none)
 none))
 none)
 (some [sV true x27 z19 l20 z21 l22 z23 l24 z25 l26]):=by kernel_rfl
theorem qr4 (k n:Nat)(fu:FU)(x0 x1:Int)(z2:Bool)(l3:L3)(z4:Bool)(l5:LI)(z6:Bool)(l7:LI)(z8:Bool)(l9:LI)(x10:Int)(z11:Bool)(l12:L3)(z13:Bool)(l14:LI)(z15:Bool)(l16:LI)(z17:Bool)(l18:LI)(x19:Int)(z20:Bool)(l21:L3)(z22:Bool)(l23:LI)(z24:Bool)(l25:LI)(z26:Bool)(l27:LI)(x28:Int)(z29:Bool)(l30:LI):lp k spec_l11Step [] fu 4 (n+1) (qzp x0 x1 z2 l3 z4 l5 z6 l7 z8 l9 x10 z11 l12 z13 l14 z15 l16 z17 l18 x19 z20 l21 z22 l23 z24 l25 z26 l27 x28 z29 l30)=
 cond (decide (IntKind.wrap .i64 (x1+1)<nI (List.length l5)))
 ((go k spec_l05Face [.agg [.int .i64 x10,.arr false z2 (.r3 l3)],.int .i64 x1]).bind fun r0=>
 (go k spec_IsActive [.int .i64 x0,.int .i64 (D.toInt (nth r0 0))]).bind fun r1=>
 cond (!bit (nth r1 0))
 (lp k spec_l11Step [] fu 4 n (qzp x0 (IntKind.wrap .i64 (x1+1)) z2 l3 z4 l5 z6 l7 z8 l9 x10 z11 l12 z13 l14 z15 l16 z17 l18 x19 z20 l21 z22 l23 z24 l25 z26 l27 x28 z29 l30))
 ((go k spec_l09Flux [sV false x10 z2 l3 z4 l5 z6 l7 z8 l9,.int .i64 x1]).bind fun r2=>
 cond (decide (0≤x1)&&decide (x1<nI (List.length l30)))
 (cond (decide (0≤x1)&&decide (x1<nI (List.length l23)))
 (cond (decide (0≤x1)&&decide (x1<nI (List.length (List.set l30 (Int.toNat x1) (D.toInt (nth r2 0))))))
 (cond (decide (0≤x1)&&decide (x1<nI (List.length l23)))
 (cond (decide (0≤IntKind.wrap .i64 (x1+1))&&decide (IntKind.wrap .i64 (x1+1)<nI (List.length (List.set l23 (Int.toNat x1) (IntKind.wrap .i64 (List.getD l23 (Int.toNat x1) 0 - List.getD (List.set l30 (Int.toNat x1) (D.toInt (nth r2 0))) (Int.toNat x1) 0))))))
 (cond (decide (0≤x1)&&decide (x1<nI (List.length (List.set l30 (Int.toNat x1) (D.toInt (nth r2 0))))))
 (cond (decide (0≤IntKind.wrap .i64 (x1+1))&&decide (IntKind.wrap .i64 (x1+1)<nI (List.length (List.set l23 (Int.toNat x1) (IntKind.wrap .i64 (List.getD l23 (Int.toNat x1) 0 - List.getD (List.set l30 (Int.toNat x1) (D.toInt (nth r2 0))) (Int.toNat x1) 0))))))
 (lp k spec_l11Step [] fu 4 n (qzp x0 (IntKind.wrap .i64 (x1+1)) z2 l3 z4 l5 z6 l7 z8 l9 x10 z11 l12 z13 l14 z15 l16 z17 l18 x19 z20 l21 z22 (List.set (List.set l23 (Int.toNat x1) (IntKind.wrap .i64 (List.getD l23 (Int.toNat x1) 0 - List.getD (List.set l30 (Int.toNat x1) (D.toInt (nth r2 0))) (Int.toNat x1) 0))) (Int.toNat (IntKind.wrap .i64 (x1+1))) (IntKind.wrap .i64 (List.getD (List.set l23 (Int.toNat x1) (IntKind.wrap .i64 (List.getD l23 (Int.toNat x1) 0 - List.getD (List.set l30 (Int.toNat x1) (D.toInt (nth r2 0))) (Int.toNat x1) 0))) (Int.toNat (IntKind.wrap .i64 (x1+1))) 0+List.getD (List.set l30 (Int.toNat x1) (D.toInt (nth r2 0))) (Int.toNat x1) 0))) z24 l25 z26 l27 x28 z29 (List.set l30 (Int.toNat x1) (D.toInt (nth r2 0)))))
 none)
 none)
 none)
 none)
 none)
 none)
 none))
 (lp k spec_l11Step [] fu 11 k (qzo 0 z2 l3 z4 l5 z6 l7 z8 l9 x10 z11 l12 z13 l14 z15 l16 z17 l18 x19 z20 l21 z22 l23 z24 l25 z26 l27 x28 z29 l30)):=by kernel_rfl

end Go.Proofs.YtjfjniebmdafeaaGreatDoor
end
section
namespace Go.Proofs.YtjfjniebmdafeaaGreatDoor
open Go.Ev
theorem qf9 (k:Nat)(hk:2000000≤k)(a0:Int)(a1z:Bool)(a1:List (Int×Int×Int))(h1:(a1.length:Int)≤1048576):go (k+1) spec_l04Copy [(.agg [(.int .i64 (a0)),(.arr false (a1z) (.r3 (a1)))])]=some [.agg [.int .i64 a0,.arr true false (.r3 a1)]]:=by
  rw [qmw]
  simp (disch:=omega) only [wk,bit,nI]
theorem qgk (k:Nat)(hk:2000000≤k)(a0:Int)(a1z:Bool)(a1:List (Int×Int×Int))(a2z:Bool)(a2:List Int)(a3z:Bool)(a3:List Int)(a4z:Bool)(a4:List Int)(h1:(a1.length:Int)≤1048576)(h2:(a2.length:Int)≤1048576)(h3:(a3.length:Int)≤1048576)(h4:(a4.length:Int)≤1048576):go (k+2) spec_l07Copy [(.agg [(.int .i64 (a0)),(.arr false (a1z) (.r3 (a1))),(.arr false (a2z) (.ints .i64 (a2))),(.arr false (a3z) (.ints .i64 (a3))),(.arr false (a4z) (.ints .i64 (a4)))])]=some [.agg [.int .i64 a0,.arr true false (.r3 a1),.arr true false (.ints .i64 a2),.arr true false (.ints .i64 a3),.arr true false (.ints .i64 a4)]]:=by
  rw [qm7]
  simp (disch:=omega) only [wk,bit,nI,qf9]
theorem qex (k:Nat)(hk:2000000≤k)(a:List Int)(hl:(a.length:Int)≤1048576):go (k+1) slices_Clone_int_int [.arr false false (.ints .i64 a)]=some [.arr true false (.ints .i64 a)]:=by
  rw [qlm]
  simp (disch:=omega) only [wk,bit,nI]
theorem qew (k:Nat)(hk:2000000≤k)(a:List Cell)(hl:(a.length:Int)≤1048576):go (k+1) slices_Clone_impl_Id_impl_Id [.arr false false (.r3 a)]=some [.arr true false (.r3 a)]:=by
  rw [qll]
  simp (disch:=omega) only [wk,bit,nI]
theorem qdm (k:Nat)(hk:2000000≤k)(a0:Int)(a1:List Cell)(h1:(a1.length:Int)≤1048576):go (k+2) impl_copyMesh [.agg [.int .i64 a0,.arr false false (.r3 a1)]]=some [.agg [.int .i64 a0,.arr true false (.r3 a1)]]:=by
  rw [qk2]
  simp (disch:=omega) only [wk,bit,nI,qew]
theorem qdn (k:Nat)(hk:2000000≤k)(a0:Int)(a1:List Cell)(a2 a3 a4:List Int)(h1:(a1.length:Int)≤1048576)(h2:(a2.length:Int)≤1048576)(h3:(a3.length:Int)≤1048576)(h4:(a4.length:Int)≤1048576):
    go (k+3) impl_copyState [.agg [.int .i64 a0,.arr false false (.r3 a1),.arr false false (.ints .i64 a2),.arr false false (.ints .i64 a3),.arr false false (.ints .i64 a4)]]=some [.agg [.int .i64 a0,.arr true false (.r3 a1),.arr true false (.ints .i64 a2),.arr true false (.ints .i64 a3),.arr true false (.ints .i64 a4)]]:=by
  rw [qk3]
  simp (disch:=omega) only [wk,bit,nI,qdm,qex]
end Go.Proofs.YtjfjniebmdafeaaGreatDoor
end
section
namespace Go.Proofs.YtjfjniebmdafeaaGreatDoor
open Go.Ev
theorem qft (k:Nat)(hk:2000000≤k)(a:Int)(b:Int)(c:Int):go (k+2) spec_ShareOut [(.int .i64 (a)),(.int .i64 (b)),(.int .i64 (c))]=some [.int .i64 (qz4 a b c)]:=by
  rw [qmk]
  unfold qz4
  cases hm:inR c 1 10000000
  · simp (disch:=omega) only [wk,bit,nI,qf7,hm]
  cases hp:inR b 0 c
  · simp (disch:=omega) only [wk,bit,nI,qf7,hm,hp]
  have hm' :=qpe.1 hm
  cases ht:inR a 0 (1000*c)
  · simp (disch:=omega) only [wk,bit,nI,qf7,hm,hp,ht]
  have q:=qz8 hm hp ht
  have q2:0≤Int.tdiv (a*b) c∧Int.tdiv (a*b) c≤100000000000000000:=by
    have:=q12 (x:=a*b) (y:=c) (B:=100000000000000000) (by omega) (by omega) (by omega)
    rw [Int.tdiv_eq_ediv_of_nonneg q.1] at*
    exact ⟨Int.ediv_nonneg q.1 (by omega),this.2⟩
  simp (disch:=omega) only [wk,bit,nI,qf7,hm,hp,ht]
theorem qfm (k:Nat)(hk:2000000≤k)(a:Int)(b:Int)(c:Int)(d:Int):go (k+3) spec_LeafOut [(.int .i64 (a)),(.int .i64 (b)),(.int .i64 (c)),(.int .i64 (d))]=some [.int .i64 (loA a b c d),.int .i64 (loB a b c d)]:=by
  rw [qmd]
  unfold loA loB loOk
  cases hm:inR b 1 10000000
  · simp (disch:=omega) only [wk,bit,nI,qf7,hm]
  have hm' :=qpe.1 hm
  cases ht:inR a 0 (1000*b)
  · simp (disch:=omega) only [wk,bit,nI,qf7,hm,ht]
  cases hr:inR c 0 b
  · simp (disch:=omega) only [wk,bit,nI,qf7,hm,ht,hr]
  have hr' :=qpe.1 hr
  cases hl:inR d 0 (b - c)
  · simp (disch:=omega) only [wk,bit,nI,qf7,hm,ht,hr,hl]
  have hl' :=qpe.1 hl
  have s1:=qz6 a c b; have s2:=qz6 a (c+d) b
  simp (disch:=omega) only [wk,bit,nI,qf7,hm,ht,hr,hl,qft]
theorem qe6 (k:Nat)(hk:2000000≤k)(a b:Int)(hb:0<b)(ha: -1000000000000≤a)(ha' :a≤1000000000000):go (k+1) spec_DivTrunc [.int .i64 a,.int .i64 b]=some [.int .i64 (Int.tdiv a b)]:=by
  rw [qlz]
  have:=q12 hb ha ha'
  simp (disch:=omega) only [wk,bit,nI]
theorem qgr (k:Nat)(hk:2000000≤k)(a:Int)(b:Int)(c:Int)(d:Int)(e:Int)(f:Int)(ha:0≤a∧a≤161000000)(hb:0≤b∧b≤161000000)(hc:0≤c∧c≤10000000)(hd:0≤d∧d≤10000000)(he:inR e 0 4=true)(hf:inR f 0 4=true):go (k+3) spec_l09Pair [(.int .i64 (a)),(.int .i64 (b)),(.int .i64 (c)),(.int .i64 (d)),(.int .i64 (e)),(.int .i64 (f))]=some [.int .i64 (qwg a b c d e f)]:=by
  rw [qnf]
  have w1:=q2y he; have w2:=q2y hf; have w3:=q2z (max f e)
  have p:=qvh (x:=a - b) (w:=q2x (max f e)) (A:=161000000) (by omega) (by omega) w3.1 w3.2
  have t:=q12 (x:=(a - b)*q2x (max f e)) (y:=32*(q2x e+q2x f)) (B:=2576000000) (by omega) (by omega) (by omega)
  have t1:Int.tdiv c 4=c / 4:=Int.tdiv_eq_ediv_of_nonneg (by omega)
  have t2:Int.tdiv d 4=d / 4:=Int.tdiv_eq_ediv_of_nonneg (by omega)
  simp (disch:=omega) only [wk,bit,nI,qfx,qe6,t1,t2]
  rfl
theorem qgp (k:Nat)(hk:2000000≤k)(r:Int)(z1 z2 z3 z4:Bool)(l:List Cell)(m t b:List Int)(F:StF r l m t b)(i:Nat)(hi:i+1<l.length):
    go (k+4) spec_l09Flux [.agg [.int .i64 r,.arr false z1 (.r3 l),.arr false z2 (.ints .i64 m),.arr false z3 (.ints .i64 t),.arr false z4 (.ints .i64 b)],.int .i64 (i:Int)]=some [.int .i64 (fl l m b i)]:=by
  rw [qnd]
  have hl:=F.len; have hm:=F.ml
  have h1:=F.at i; have h2:=F.at (i+1); have s1:=q1l F i; have s2:=q1l F (i+1)
  have v1:=F.lev i; have v2:=F.lev (i+1)
  have e1:=qgs (k+3 - 1) (by omega) r z1 z2 z3 z4 l m t b F i (by omega)
  have e2:=qgs (k+3 - 1) (by omega) r z1 z2 z3 z4 l m t b F (i+1) hi
  rw [show k+3 - 1+1=k+3 by omega] at e1 e2
  have e3:=qgr (k+3 - 3) (by omega) (surf l m b i) (surf l m b (i+1)) (m.getD i 0) (m.getD (i+1) 0) (l.getD i zz3).2.1 (l.getD (i+1) zz3).2.1 s1 s2 ⟨h1.1,h1.2.1⟩ ⟨h2.1,h2.2.1⟩ v1 v2
  rw [show k+3 - 3+3=k+3 by omega] at e3
  simp (disch:=omega) only [wk,bit,nI,e1,e2,e3]
  rfl
def Fk (tk:Int)(l:List Cell)(m b:List Int)(k j:Nat):Int:=if j<k then ff tk l m b j else 0
def Mk (tk:Int)(l:List Cell)(m b:List Int)(k j:Nat):Int:=m.getD j 0 - (if j<k then ff tk l m b j else 0)+(if 1≤j∧j≤k then ff tk l m b (j - 1) else 0)
theorem quf (k:Nat)(hk:2000000≤k)(fu:List (Nat×Nat))(r tk:Int)(z1 z2 z3 z4 y1 y2 y3 y4 x1 x2 x3 x4:Bool)(c1:List Cell)(c2 c3 c4:List Int)(c0:Int)(l:List Cell)(m t b tr bd:List Int)(ld:List Cell)(r' :Int)(F:StF r l m t b): ∀ (n i:Nat),i<l.length→l.length - i<n→
    lp (k+4) spec_l11Step [] fu 4 (n) (qzp tk (i:Int) z1 l z2 m z3 t z4 b r y1 c1 y2 c2 y3 c3 y4 c4 c0 x1 ld x2 (tab l.length (Mk tk l m b i)) x3 tr x4 bd r' false (tab l.length (Fk tk l m b i)))=lp (k+4) spec_l11Step [] fu 11 (k+4) (qzo 0 z1 l z2 m z3 t z4 b r y1 c1 y2 c2 y3 c3 y4 c4 c0 x1 ld x2 (tab l.length (stM tk l m b)) x3 tr x4 bd r' false (tab l.length (ff tk l m b)))
  | 0,i,hi,hn=>by omega
  | n+1,i,hi,hn=>by
    have hl:=F.len; have hm:=F.ml
    rw [qr4]
    by_cases h:i+1<l.length
    · have IH:=quf k hk fu r tk z1 z2 z3 z4 y1 y2 y3 y4 x1 x2 x3 x4 c1 c2 c3 c4 c0 l m t b tr bd ld r' F n (i+1) h (by omega)
      have b0:=qof F i; have b1:=qn5 F tk (i - 1); have a0:=F.at i; have a1:=F.at (i+1); have a2:=F.at (i - 1)
      have eF:=qgp (k+4 - 4) (by omega) r z1 z2 z3 z4 l m t b F i h
      rw [show k+4 - 4+4=k+4 by omega] at eF
      cases ha:qpm tk (qn3 l i)
      · have hz:ff tk l m b i=0:=by unfold ff qaq; rw [ha]; simp
        simp (disch:=omega) only [wk,bit,nI,qge,qfh,ha]
        rw [← IH]
        have q1:tab l.length (Mk tk l m b i)=tab l.length (Mk tk l m b (i+1)):=q1p fun j hj=>by
          unfold Mk
          by_cases g1:j=i
          · subst g1
            by_cases g2:1≤j
            · simp (disch:=omega) only [itT,itF,if_pos,if_neg,hz]
            · simp (disch:=omega) only [itT,itF,if_pos,if_neg,hz]
          · by_cases g2:j=i+1
            · subst g2; simp (disch:=omega) only [itT,itF,if_pos,if_neg,Nat.add_sub_cancel,hz]
            · have e1:(j<i)=(j<i+1):=by rw [eq_iff_iff]; omega
              have e2:(1≤j∧j≤i)=(1≤j∧j≤i+1):=by rw [eq_iff_iff]; omega
              simp only [e1,e2]
        have q2:tab l.length (Fk tk l m b i)=tab l.length (Fk tk l m b (i+1)):=q1p fun j hj=>by
          unfold Fk
          by_cases g1:j=i
          · subst g1; rw [if_neg (by omega),if_pos (by omega),hz]
          · have e1:(j<i)=(j<i+1):=by rw [eq_iff_iff]; omega
            simp only [e1]
        rw [q1,q2]
      · have hz:ff tk l m b i=fl l m b i:=by unfold ff qaq; rw [ha,dT h]; rfl
        have v1:Mk tk l m b i i=m.getD i 0+(if 1≤i then ff tk l m b (i - 1) else 0):=by
          unfold Mk; rw [if_neg (by omega)]
          by_cases g2:1≤i
          · rw [if_pos (by omega),if_pos g2]; omega
          · rw [if_neg (by omega),if_neg g2]; omega
        have v2:Mk tk l m b i (i+1)=m.getD (i+1) 0:=by
          unfold Mk; rw [if_neg (by omega),if_neg (by omega)]; omega
        have bb: -5000000≤(if 1≤i then ff tk l m b (i - 1) else 0)∧(if 1≤i then ff tk l m b (i - 1) else 0)≤5000000:=by
          by_cases g2:1≤i
          · rw [if_pos g2]; rw [show i - 1+1=i by omega] at b1; omega
          · rw [if_neg g2]; omega
        have w1: -20000000≤Mk tk l m b i i∧Mk tk l m b i i≤20000000:=by rw [v1]; omega
        have w2: -20000000≤Mk tk l m b i (i+1)∧Mk tk l m b i (i+1)≤20000000:=by rw [v2]; omega
        simp (disch:=omega) only [wk,bit,nI,qge,qfh,ha,eF,q1r,q1u,q1q,itT,itF,if_pos,if_neg]
        rw [v1,v2]
        rw [← IH]
        have q1:tab l.length (fun j=>if j=i+1 then m.getD (i+1) 0+fl l m b i else if j=i then m.getD i 0+(if 1≤i then ff tk l m b (i - 1) else 0) - fl l m b i else Mk tk l m b i j)=tab l.length (Mk tk l m b (i+1)):=q1p fun j hj=>by
          by_cases g2:j=i+1
          · subst g2; unfold Mk; simp (disch:=omega) only [itT,itF,if_pos,if_neg,Nat.add_sub_cancel,hz]; omega
          · by_cases g1:j=i
            · subst g1; unfold Mk
              by_cases g3:1≤j
              · simp (disch:=omega) only [itT,itF,if_pos,if_neg,hz]; omega
              · simp (disch:=omega) only [itT,itF,if_pos,if_neg,hz]; omega
            · rw [if_neg g2,if_neg g1]
              have e1:(j<i)=(j<i+1):=by rw [eq_iff_iff]; omega
              have e2:(1≤j∧j≤i)=(1≤j∧j≤i+1):=by rw [eq_iff_iff]; omega
              unfold Mk
              simp only [e1,e2]
        have q2:tab l.length (fun j=>if j=i then fl l m b i else Fk tk l m b i j)=tab l.length (Fk tk l m b (i+1)):=q1p fun j hj=>by
          by_cases g1:j=i
          · subst g1; unfold Fk; rw [if_pos rfl,if_pos (by omega),hz]
          · rw [if_neg g1]
            have e1:(j<i)=(j<i+1):=by rw [eq_iff_iff]; omega
            unfold Fk
            simp only [e1]
        rw [q1,q2]
    · simp (disch:=omega) only [wk,bit,nI]
      have q1:tab l.length (Mk tk l m b i)=tab l.length (stM tk l m b):=q1p fun j hj=>by
        unfold Mk stM
        by_cases g1:j=i
        · subst g1; rw [if_neg (by omega),qn4 (i:=j) (show l.length≤j+1 by omega)]
          by_cases g3:1≤j
          · rw [if_pos g3,if_pos (by omega)]
          · rw [if_neg g3,if_neg (by omega)]
        · rw [if_pos (by omega)]
          by_cases g3:1≤j
          · rw [if_pos g3,if_pos (by omega)]
          · rw [if_neg g3,if_neg (by omega)]
      have q2:tab l.length (Fk tk l m b i)=tab l.length (ff tk l m b):=q1p fun j hj=>by
        unfold Fk
        by_cases g1:j=i
        · subst g1; rw [if_neg (by omega),qn4 (i:=j) (show l.length≤j+1 by omega)]
        · rw [if_pos (by omega)]
      rw [q1,q2]
set_option maxHeartbeats 2000000 in
theorem que (k:Nat)(hk:2000000≤k)(fu:List (Nat×Nat))(r tk:Int)(z1 z2 z3 z4 y1 y2 y3 y4:Bool)(c1:List Cell)(c2 c3 c4:List Int)(c0:Int)(l:List Cell)(m t b mm bd:List Int)(ld:List Cell)(r' :Int)(F:StF r l m t b): ∀ (n i:Nat),i≤l.length→l.length - i<n→
    lp (k+4) spec_l11Step [] fu 11 (n) (qzo (i:Int) z1 l z2 m z3 t z4 b r y1 c1 y2 c2 y3 c3 y4 c4 c0 false ld false mm false (tab l.length (Tk tk l m t b i)) false bd r' false (tab l.length (ff tk l m b)))=some [.agg [.int .i64 r',.arr true false (.r3 ld),.arr true false (.ints .i64 mm),.arr true false (.ints .i64 (tab l.length (stT tk l m t b))),.arr true false (.ints .i64 bd)]]
  | 0,i,hi,hn=>by omega
  | n+1,i,hi,hn=>by
    have hl:=F.len; have hm:=F.ml; have ht:=F.tl
    rw [qr3]
    by_cases h:i<l.length
    · have IH:=que k hk fu r tk z1 z2 z3 z4 y1 y2 y3 y4 c1 c2 c3 c4 c0 l m t b mm bd ld r' F n (i+1) (by omega) (by omega)
      rw [← qan tk l m t b i h] at IH
      have f1:=qn5 F tk i; have f2:=qn5 F tk (i - 1); have a0:=F.at i; have a1:=F.at (i+1); have a2:=F.at (i - 1)
      have A:=qv9 tk l m t b i; have B:=qwb tk l m t b i
      have A' :=qv9 tk l m t b (i - 1); have B' :=qwb tk l m t b (i - 1); have A'' :=qv9 tk l m t b (i - 1 - 1)
      have v1:Tk tk l m t b i i=t.getD i 0+(if 1≤i then outA tk l m t b (i - 1) else 0):=by
        unfold Tk; rw [if_neg (by omega),if_neg (show ¬ (i+1<i) by omega)]
        by_cases g2:1≤i
        · rw [if_pos (by omega),if_pos g2]; omega
        · rw [if_neg (by omega),if_neg g2]; omega
      have w1:0≤Tk tk l m t b i i∧Tk tk l m t b i i≤200000000000000000:=by
        rw [v1]
        by_cases g2:1≤i
        · rw [if_pos g2]; omega
        · rw [if_neg g2]; omega
      have w2:0≤Tk tk l m t b i (i+1)∧Tk tk l m t b i (i+1)≤200000000000000000:=by
        unfold Tk; rw [if_neg (by omega),if_neg (by omega),if_neg (by omega)]; omega
      have hA:loA (t.getD i 0) (m.getD i 0) (max 0 (ff tk l m b i)) (lft tk l m b i)=outA tk l m t b i:=rfl
      have hB:loB (t.getD i 0) (m.getD i 0) (max 0 (ff tk l m b i)) (lft tk l m b i)=outB tk l m t b i:=rfl
      have hi1:0<ff tk l m b i→i+1<l.length:=fun g4=>by
        rcases Nat.lt_or_ge (i+1) l.length with q | q
        · exact q
        · rw [qn4 q] at g4; omega
      have zA:¬ 0<ff tk l m b i→outA tk l m t b i=0:=fun g4=>qwa (by unfold rgt; omega)
      by_cases g1:1≤i
      · have hL:max 0 (0 - ff tk l m b (i - 1))=lft tk l m b i:=by unfold lft; rw [if_pos g1]
        have hL0:0≤lft tk l m b i:=by rw [← hL]; omega
        rw [show i - 1+1=i by omega] at f2
        have w3: -300000000000000000≤Tk tk l m t b i (i - 1)∧Tk tk l m t b i (i - 1)≤300000000000000000:=by
          unfold Tk; rw [if_pos (by omega),if_neg (show ¬ (i - 1+1<i) by omega)]
          by_cases g3:1≤i - 1
          · rw [if_pos (show 1≤i - 1∧i - 1≤i by omega)]; omega
          · rw [if_neg (show ¬ (1≤i - 1∧i - 1≤i) by omega)]; omega
        by_cases g4:0<ff tk l m b i
        · have:=hi1 g4
          by_cases g5:0<lft tk l m b i
          · rw [← q2m g1] at IH
            simp (disch:=omega) only [wk,bit,nI,qhd,q1r,q1q,q1u,hL,qfm,hA,hB,itT,niF]
            exact IH
          · rw [← q2l (qwc (by omega))] at IH
            simp (disch:=omega) only [wk,bit,nI,qhd,q1r,q1q,q1u,hL,qfm,hA,hB,itT,niF]
            exact IH
        · by_cases g5:0<lft tk l m b i
          · rw [← q2k g1 (zA g4)] at IH
            simp (disch:=omega) only [wk,bit,nI,qhd,q1r,q1q,q1u,hL,qfm,hA,hB,itT,niF]
            exact IH
          · rw [← q2j (zA g4) (qwc (by omega))] at IH
            simp (disch:=omega) only [wk,bit,nI,qhd,q1r,q1q,q1u,hL,qfm,hA,hB,itT,niF]
            exact IH
      · have hL:(0:Int)=lft tk l m b i:=by unfold lft; rw [if_neg g1]
        have zB:outB tk l m t b i=0:=qwc hL.symm
        have hA' :loA (t.getD i 0) (m.getD i 0) (max 0 (ff tk l m b i)) 0=outA tk l m t b i:=by unfold outA rgt; rw [← hL]
        have hB' :loB (t.getD i 0) (m.getD i 0) (max 0 (ff tk l m b i)) 0=outB tk l m t b i:=by unfold outB rgt; rw [← hL]
        by_cases g4:0<ff tk l m b i
        · have:=hi1 g4
          rw [← q2l zB] at IH
          simp (disch:=omega) only [wk,bit,nI,qhd,q1r,q1q,q1u,hA',hB',qfm,hA,hB,itT,niF]
          exact IH
        · rw [← q2j (zA g4) zB] at IH
          simp (disch:=omega) only [wk,bit,nI,qhd,q1r,q1q,q1u,hA',hB',qfm,hA,hB,itT,niF]
          exact IH
    · simp (disch:=omega) only [wk,bit,nI]
      rw [show i=l.length by omega,qam tk l m t b hm]
theorem qae (tk:Int)(l:List Cell)(m b:List Int)(hm:m.length=l.length):m=tab l.length (Mk tk l m b 0):=by
  have h:=q1t m
  rw [hm] at h
  refine h.trans (q1p fun j hj=> ?_)
  unfold Mk
  rw [if_neg (by omega),if_neg (by omega)]; omega
theorem qaa (tk:Int)(l:List Cell)(m b:List Int):List.replicate l.length (0:Int)=tab l.length (Fk tk l m b 0):=by
  rw [q1w]
  refine q1p fun j hj=> ?_
  unfold Fk
  rw [if_neg (by omega)]
theorem qgt (k:Nat)(hk:2000000≤k)(r:Int)(z1 z2 z3 z4:Bool)(l:List Cell)(m t b:List Int)(F:StF r l m t b)(tk:Int):
    go (k+5) spec_l11Step [.agg [.int .i64 r,.arr false z1 (.r3 l),.arr false z2 (.ints .i64 m),.arr false z3 (.ints .i64 t),.arr false z4 (.ints .i64 b)],.int .i64 tk]=some [.agg [.int .i64 r,.arr true false (.r3 l),.arr true false (.ints .i64 (tab l.length (stM tk l m b))),.arr true false (.ints .i64 (tab l.length (stT tk l m t b))),.arr true false (.ints .i64 b)]]:=by
  rw [qnh]
  have hl:=F.len; have hm:=F.ml; have ht:=F.tl; have hb:=F.bl; have hr:=F.rr
  simp (disch:=omega) only [wk,bit,nI,qgk]
  rw [show List.replicate m.length (0:Int)=tab l.length (Fk tk l m b 0) by rw [hm]; exact qaa tk l m b]
  have e1:=quf k hk [] r tk z1 z2 z3 z4 true true true true false false false false [] [] [] [] 0 l m t b t b l r F (k+4) 0 (by omega) (by omega)
  have e2:=que k hk [] r tk z1 z2 z3 z4 true true true true [] [] [] [] 0 l m t b (tab l.length (stM tk l m b)) b l r F (k+4) 0 (by omega) (by omega)
  rw [← qae tk l m b hm] at e1
  rw [← qao tk l m t b ht] at e2
  exact e1.trans e2
end Go.Proofs.YtjfjniebmdafeaaGreatDoor
end
section
namespace Go.Proofs.YtjfjniebmdafeaaGreatDoor
open Go.Ev
set_option maxRecDepth 20000
theorem qc2 (k:Nat)(hk:2000000≤k)(a:Int)(b:Int)(c:Int):go (k+2) impl_ShareOut [(.int .i64 (a)),(.int .i64 (b)),(.int .i64 (c))]=some [.int .i64 (qz4 a b c)]:=by
  rw [qj2]
  unfold qz4
  cases hm:inR c 1 10000000
  · simp (disch:=omega) only [wk,bit,nI,qep,hm]
  cases hp:inR b 0 c
  · simp (disch:=omega) only [wk,bit,nI,qep,hm,hp]
  have hm' :=qpe.1 hm
  cases ht:inR a 0 (1000*c)
  · simp (disch:=omega) only [wk,bit,nI,qep,hm,hp,ht]
  have q:=qz8 hm hp ht
  have q2:0≤Int.tdiv (a*b) c∧Int.tdiv (a*b) c≤100000000000000000:=by
    have:=q12 (x:=a*b) (y:=c) (B:=100000000000000000) (by omega) (by omega) (by omega)
    rw [Int.tdiv_eq_ediv_of_nonneg q.1] at*
    exact ⟨Int.ediv_nonneg q.1 (by omega),this.2⟩
  simp (disch:=omega) only [wk,bit,nI,qep,hm,hp,ht]
theorem qcr (k:Nat)(hk:2000000≤k)(a:Int)(b:Int)(c:Int)(d:Int):go (k+3) impl_LeafOut [(.int .i64 (a)),(.int .i64 (b)),(.int .i64 (c)),(.int .i64 (d))]=some [.int .i64 (loA a b c d),.int .i64 (loB a b c d)]:=by
  rw [qjk]
  unfold loA loB loOk
  cases hm:inR b 1 10000000
  · simp (disch:=omega) only [wk,bit,nI,qep,hm]
  have hm' :=qpe.1 hm
  cases ht:inR a 0 (1000*b)
  · simp (disch:=omega) only [wk,bit,nI,qep,hm,ht]
  cases hr:inR c 0 b
  · simp (disch:=omega) only [wk,bit,nI,qep,hm,ht,hr]
  have hr' :=qpe.1 hr
  cases hl:inR d 0 (b - c)
  · simp (disch:=omega) only [wk,bit,nI,qep,hm,ht,hr,hl]
  have hl' :=qpe.1 hl
  have s1:=qz6 a c b; have s2:=qz6 a (c+d) b
  simp (disch:=omega) only [wk,bit,nI,qep,hm,ht,hr,hl,qc2]
theorem qcd (k:Nat)(hk:2000000≤k)(a b:Int)(hb:0<b)(ha: -1000000000000≤a)(ha' :a≤1000000000000):go (k+1) impl_DivTrunc [.int .i64 a,.int .i64 b]=some [.int .i64 (Int.tdiv a b)]:=by
  rw [qi7]
  have:=q12 hb ha ha'
  simp (disch:=omega) only [wk,bit,nI]
theorem qcb (k:Nat)(hk:2000000≤k)(a b c:Int)(h:b≤c):go (k+1) impl_Clamp [.int .i64 a,.int .i64 b,.int .i64 c]=some [.int .i64 (max b (min c a))]:=by
  rw [qi5]
  simp (disch:=omega) only [wk,bit,nI]
  rw [show min c (max b a)=max b (min c a) by omega]
theorem qdv (k:Nat)(hk:2000000≤k)(e c a f d b:Int)(ha:0≤a∧a≤161000000)(hb:0≤b∧b≤161000000)(hc:0≤c∧c≤10000000)(hd:0≤d∧d≤10000000)(he:inR e 0 4=true)(hf:inR f 0 4=true):
    go (k+4) impl_flux [.agg [.int .i64 e,.int .i64 c,.int .i64 a],.agg [.int .i64 f,.int .i64 d,.int .i64 b]]=some [.int .i64 (qwg a b c d e f)]:=by
  rw [qk7]
  have w1:=q2y he; have w2:=q2y hf; have w3:=q2z (max f e)
  have p:=qvh (x:=a - b) (w:=q2x (max f e)) (A:=161000000) (by omega) (by omega) w3.1 w3.2
  have t:=q12 (x:=(a - b)*q2x (max f e)) (y:=32*(q2x e+q2x f)) (B:=2576000000) (by omega) (by omega) (by omega)
  have t1:Int.tdiv c 4=c / 4:=Int.tdiv_eq_ediv_of_nonneg (by omega)
  have t2:Int.tdiv d 4=d / 4:=Int.tdiv_eq_ediv_of_nonneg (by omega)
  simp (disch:=omega) only [wk,bit,nI,qda,qcd,qcb,t1,t2]
  rfl
theorem qei (k:Nat)(hk:2000000≤k)(r:Int)(z1 z2 z3 z4:Bool)(l:List Cell)(m t b:List Int)(F:StF r l m t b)(i:Nat)(hi:i<l.length):
    go (k+2) impl_State_side [.agg [.int .i64 (r),.arr false (z1) (.r3 (l)),.arr false (z2) (.ints .i64 (m)),.arr false (z3) (.ints .i64 (t)),.arr false (z4) (.ints .i64 (b))],.int .i64 (i:Int)]=some [.agg [.int .i64 (qsj l i),.int .i64 (m.getD i 0),.int .i64 (surf l m b i)]]:=by
  rw [qkq]
  have hl:=F.len; have hm:=F.ml
  have e1:=qem (k+1 - 1) (by omega) r z1 z2 z3 z4 l m t b F i hi
  rw [show k+1 - 1+1=k+1 by omega] at e1
  simp (disch:=omega) only [wk,bit,nI,e1]
theorem qeh (k:Nat)(hk:2000000≤k)(r:Int)(z1 z2 z3 z4:Bool)(l:List Cell)(m t b:List Int)(F:StF r l m t b)(i:Nat)(hi:i+1<l.length):
    go (k+5) impl_State_flux [.agg [.int .i64 (r),.arr false (z1) (.r3 (l)),.arr false (z2) (.ints .i64 (m)),.arr false (z3) (.ints .i64 (t)),.arr false (z4) (.ints .i64 (b))],.int .i64 (i:Int)]=some [.int .i64 (fl l m b i)]:=by
  rw [qke]
  have hl:=F.len
  have h1:=F.at i; have h2:=F.at (i+1); have s1:=q1l F i; have s2:=q1l F (i+1)
  have v1:=F.lev i; have v2:=F.lev (i+1)
  have e1:=qei (k+4 - 2) (by omega) r z1 z2 z3 z4 l m t b F i (by omega)
  have e2:=qei (k+4 - 2) (by omega) r z1 z2 z3 z4 l m t b F (i+1) hi
  rw [show k+4 - 2+2=k+4 by omega] at e1 e2
  have e3:=qdv (k+4 - 4) (by omega) (qsj l i) (m.getD i 0) (surf l m b i) (qsj l (i+1)) (m.getD (i+1) 0) (surf l m b (i+1)) s1 s2 ⟨h1.1,h1.2.1⟩ ⟨h2.1,h2.2.1⟩ v1 v2
  rw [show k+4 - 4+4=k+4 by omega] at e3
  simp (disch:=omega) only [wk,bit,nI,e1,e2,e3]
  rfl
def nats (l:List Nat):List Int:=l.map (fun i:Nat=>(i:Int))
theorem qvm (l:List Nat):(nats l).length=l.length:=by simp [nats]
theorem qvl {l:List Nat}{i:Nat}(h:i<l.length):(nats l).getD i 0=((l.getD i 0:Nat):Int):=by simp [nats,h]
def qar (tk:Int)(l:List Cell):Nat→Nat→List Nat
  | 0,_=>[]
  | n+1,i=>if qpm tk (qn3 l i)=true then i::qar tk l n (i+1) else qar tk l n (i+1)
theorem qas (tk:Int)(l:List Cell): ∀ n i,(qar tk l n i).length≤n
  | 0,i=>by simp [qar]
  | n+1,i=>by
    have:=qas tk l n (i+1)
    unfold qar
    split
    · simp only [List.length_cons]; omega
    · omega
theorem qat (tk:Int)(l:List Cell): ∀ n i j,j∈qar tk l n i↔(i≤j∧j<i+n)∧qpm tk (qn3 l j)=true
  | 0,i,j=>by simp [qar]; omega
  | n+1,i,j=>by
    have ih:=qat tk l n (i+1) j
    unfold qar
    split
    · rename_i h
      rw [List.mem_cons,ih]
      constructor
      · rintro (rfl | ⟨h1,h2⟩)
        · exact ⟨by omega,h⟩
        · exact ⟨by omega,h2⟩
      · rintro ⟨h1,h2⟩
        by_cases e:j=i
        · exact .inl e
        · exact .inr ⟨by omega,h2⟩
    · rename_i h
      rw [ih]
      constructor
      · rintro ⟨h1,h2⟩; exact ⟨by omega,h2⟩
      · rintro ⟨h1,h2⟩
        refine ⟨?_,h2⟩
        by_cases e:j=i
        · subst e; exact absurd h2 h
        · omega
def acts (tk:Int)(l:List Cell):List Nat:=qar tk l (l.length - 1) 0
theorem qtk (k:Nat)(hk:2000000≤k)(fu:List (Nat×Nat))(z:Bool)(tk r:Int)(l:List Cell)(hl:(l.length:Int)≤1000)(h1:1≤l.length): ∀ (n i:Nat)(acc:List Nat),i≤l.length - 1→l.length - 1 - i<n→acc.length≤i→
    lp (k+4) impl_Mesh_active [] fu 3 (n) (qyb tk ((l.length - 1:Nat):Int) (i:Int) z l r false (nats acc))=some [.arr true false (.ints .i64 (nats (acc++qar tk l (l.length - 1 - i) i)))]
  | 0,i,acc,hi,hn,ha=>by omega
  | n+1,i,acc,hi,hn,ha=>by
    rw [qqr]
    have nl:=qvm acc
    by_cases h:i<l.length - 1
    · rw [show l.length - 1 - i=(l.length - 1 - (i+1))+1 by omega,qar]
      have eL:=qdu (k+4 - 1) (by omega) r z l i (by omega) (by omega)
      rw [show k+4 - 1+1=k+4 by omega] at eL
      have hd:(i:Int)<((l.length - 1:Nat):Int):=by omega
      rw [dT hd,qie,eL,qbs,nth0,q19,qcn _ (by omega),qbs,nth0,bit,q18]
      cases g:qpm tk (qn3 l i)
      · have e:=qtk k hk fu z tk r l hl h1 n (i+1) acc (by omega) (by omega) (by omega)
        rw [if_neg (by simp),qic]
        simp (disch:=omega) only [wk,bit,nI,e]
      · have e:=qtk k hk fu z tk r l hl h1 n (i+1) (acc++[i]) (by omega) (by omega) (by simp; omega)
        rw [if_pos rfl,qie]
        have q:nats acc++[(i:Int)]=nats (acc++[i]):=by simp [nats]
        have ql:(nats (acc++[i])).length=acc.length+1:=by simp [nats]
        rw [show acc++i::qar tk l (l.length - 1 - (i+1)) (i+1)=(acc++[i])++qar tk l (l.length - 1 - (i+1)) (i+1) by simp]
        simp (disch:=omega) only [wk,bit,nI,q,ql,big0,e]
    · simp (disch:=omega) only [wk,bit,nI]
      rw [show l.length - 1 - i=0 by omega,qar,List.append_nil]
theorem qdh (k:Nat)(hk:2000000≤k)(a0:Int)(a1z:Bool)(a1:List (Int×Int×Int))(b:Int)(hl:(a1.length:Int)≤1000)(h1:1≤a1.length):go (k+5) impl_Mesh_active [(.agg [(.int .i64 (a0)),(.arr false (a1z) (.r3 (a1)))]),(.int .i64 (b))]=some [.arr true false (.ints .i64 (nats (acts b a1)))]:=by
  rw [qjo]
  have e:=qtk k hk [] a1z b a0 a1 hl h1 (k+4) 0 [] (by omega) (by omega) (by simp)
  rw [List.nil_append,show nats []=[] from rfl] at e
  simp (disch:=omega) only [wk,bit,nI,qhd]
  exact e
end Go.Proofs.YtjfjniebmdafeaaGreatDoor
end
section
namespace Go.Proofs.YtjfjniebmdafeaaGreatDoor
open Go.Ev
theorem qms (k:Nat)(v0:Bool)(v1:LI)(v2 v3:Int):go (k+1) spec_l01Byte [.ptr true [.arr false v0 (.ints IntKind.u8 v1),.int .i64 v2,.int .i64 v3]]=
 cond (decide (v2<nI (List.length v1)))
 (cond (decide (0≤v2)&&decide (v2<nI (List.length v1)))
 (some [.int .i64 (bitN BinOp.and .i64 (IntKind.wrap .i64 (bitN BinOp.and .i64 (bitN BinOp.xor .i64 (Int.fdiv (IntKind.wrap .i64 (IntKind.wrap .i64 (v3*6364136223846793005)+1442695040888963407)) (2 ^ shiftN .i64 33)) (Int.fdiv (IntKind.wrap .i64 (IntKind.wrap .i64 (v3*6364136223846793005)+1442695040888963407)) (2 ^ shiftN .i64 45))) 255+IntKind.wrap .i64 (List.getD v1 (Int.toNat v2) 0))) 255),.ptr true [.arr false v0 (.ints IntKind.u8 v1),.int .i64 (IntKind.wrap .i64 (v2+1)),.int .i64 (IntKind.wrap .i64 (IntKind.wrap .i64 (v3*6364136223846793005)+1442695040888963407))]])
 none)
 (some [.int .i64 (bitN BinOp.and .i64 (bitN BinOp.xor .i64 (Int.fdiv (IntKind.wrap .i64 (IntKind.wrap .i64 (v3*6364136223846793005)+1442695040888963407)) (2 ^ shiftN .i64 33)) (Int.fdiv (IntKind.wrap .i64 (IntKind.wrap .i64 (v3*6364136223846793005)+1442695040888963407)) (2 ^ shiftN .i64 45))) 255),.ptr true [.arr false v0 (.ints IntKind.u8 v1),.int .i64 v2,.int .i64 (IntKind.wrap .i64 (IntKind.wrap .i64 (v3*6364136223846793005)+1442695040888963407))]]):=by kernel_rfl
theorem qmr (k:Nat)(v0:Bool)(v1:LI)(v2 v3 v4:Int):go (k+1) spec_l01Below [.ptr true [.arr false v0 (.ints IntKind.u8 v1),.int .i64 v2,.int .i64 v3],.int .i64 v4]=
 cond (decide (v4≤0))
 (some [.int .i64 0,.ptr true [.arr false v0 (.ints IntKind.u8 v1),.int .i64 v2,.int .i64 v3]])
 (cond (decide (v4≤256))
 ((go k spec_l01Byte [.ptr true [.arr false v0 (.ints IntKind.u8 v1),.int .i64 v2,.int .i64 v3]]).bind fun r0=>
 cond (!decide (v4=0))
 (some [.int .i64 (Int.tmod (D.toInt (nth r0 0)) v4),.ptr true [.arr false v0 (.ints IntKind.u8 v1),.int .i64 (D.toInt (D.cell 1 (nth r0 1))),.int .i64 (D.toInt (D.cell 2 (nth r0 1)))]])
 none)
 ((go k spec_l01Byte [.ptr true [.arr false v0 (.ints IntKind.u8 v1),.int .i64 v2,.int .i64 v3]]).bind fun r1=>
 (go k spec_l01Byte [.ptr true [.arr false v0 (.ints IntKind.u8 v1),.int .i64 (D.toInt (D.cell 1 (nth r1 1))),.int .i64 (D.toInt (D.cell 2 (nth r1 1)))]]).bind fun r2=>
 (go k spec_l01Byte [.ptr true [.arr false v0 (.ints IntKind.u8 v1),.int .i64 (D.toInt (D.cell 1 (nth r2 1))),.int .i64 (D.toInt (D.cell 2 (nth r2 1)))]]).bind fun r3=>
 (go k spec_l01Byte [.ptr true [.arr false v0 (.ints IntKind.u8 v1),.int .i64 (D.toInt (D.cell 1 (nth r3 1))),.int .i64 (D.toInt (D.cell 2 (nth r3 1)))]]).bind fun r4=>
 cond (!decide (v4=0))
 (some [.int .i64 (Int.tmod (IntKind.wrap .i64 (IntKind.wrap .i64 (IntKind.wrap .i64 (IntKind.wrap .i64 (D.toInt (nth r1 0)*16777216)+IntKind.wrap .i64 (D.toInt (nth r2 0)*65536))+IntKind.wrap .i64 (D.toInt (nth r3 0)*256))+D.toInt (nth r4 0))) v4),.ptr true [.arr false v0 (.ints IntKind.u8 v1),.int .i64 (D.toInt (D.cell 1 (nth r4 1))),.int .i64 (D.toInt (D.cell 2 (nth r4 1)))]])
 none)):=by kernel_rfl
theorem qmv (k:Nat)(v0:Bool)(v1:LI)(v2 v3 v4:Int):go (k+1) spec_l01Once [.ptr true [.arr false v0 (.ints IntKind.u8 v1),.int .i64 v2,.int .i64 v3],.int .i64 v4]=
 (go k spec_l01Below [.ptr true [.arr false v0 (.ints IntKind.u8 v1),.int .i64 v2,.int .i64 v3],.int .i64 v4]).bind fun r0=>
 some [.bool (decide (D.toInt (nth r0 0)=0)),.ptr true [.arr false v0 (.ints IntKind.u8 v1),.int .i64 (D.toInt (D.cell 1 (nth r0 1))),.int .i64 (D.toInt (D.cell 2 (nth r0 1)))]]:=by kernel_rfl
theorem qlx (k:Nat)(a0 a1 a2 b:Int):go (k+1) spec_ChildOf [.agg [.int .i64 a0,.int .i64 a1,.int .i64 a2],.int .i64 b]=
 (go k spec_IdOk [.agg [.int .i64 a0,.int .i64 a1,.int .i64 a2]]).bind fun r0=>
 cond (!bit (nth r0 0))
 (some [.agg [.int .i64 0,.int .i64 0,.int .i64 0],.bool false])
 (cond (decide (a1=4))
 (some [.agg [.int .i64 0,.int .i64 0,.int .i64 0],.bool false])
 ((go k spec_l01In [.int .i64 b,.int .i64 0,.int .i64 1]).bind fun r1=>
 cond (!bit (nth r1 0))
 (some [.agg [.int .i64 0,.int .i64 0,.int .i64 0],.bool false])
 (some [.agg [.int .i64 a0,.int .i64 (IntKind.wrap .i64 (a1+1)),.int .i64 (IntKind.wrap .i64 (IntKind.wrap .i64 (2*a2)+b))],.bool true]))):=by kernel_rfl
def qzi (x0 x1:Int)(z2:Bool)(l3:LI)(x4 x5:Int)(z6:Bool)(l7:L3)(x8 x9 x10:Int):St:=⟨fill 44 [(0,.ptr 1 0 0),(2,.int .i64 x0),(3,.ptr 3 0 0),(5,.ptr 4 0 0),(8,.int .i64 x1)],[.ptr 1 0 0,.ptr 3 0 0,.sl 0 none],[.arr false z2 (.ints IntKind.u8 l3),.box true [.sl 0 none,.int .i64 x4,.int .i64 x5],.arr true z6 (.r3 l7),.box true [.sl 2 none],.box true [.int .i64 x8,.int .i64 x9,.int .i64 x10]]⟩
theorem qmz (k:Nat)(v0:Bool)(v1:LI)(v2 v3 v4 v5 v6 v7:Int)(v8:Bool)(v9:L3):go (k+1) spec_l04Root [.ptr true [.arr false v0 (.ints IntKind.u8 v1),.int .i64 v2,.int .i64 v3],.agg [.int .i64 v4,.int .i64 v5,.int .i64 v6],.int .i64 v7,.ptr true [.arr true v8 (.r3 v9)]]=
 cond (decide (v5=4))
 (cond (decide (List.length (v9++[(v4,v5,v6)])≤bigLen))
 (some [.ptr true [.arr false v0 (.ints IntKind.u8 v1),.int .i64 v2,.int .i64 v3],.ptr true [.arr true (v8&&decide (List.length (v9++[(v4,v5,v6)])=0)) (.r3 (v9++[(v4,v5,v6)]))]])
 none)
 ((go k spec_l01Once [.ptr true [.arr false v0 (.ints IntKind.u8 v1),.int .i64 v2,.int .i64 v3],.int .i64 v7]).bind fun r0=>
 cond (!bit (nth r0 0))
 (cond (decide (List.length (v9++[(v4,v5,v6)])≤bigLen))
 (some [.ptr true [.arr false v0 (.ints IntKind.u8 v1),.int .i64 (D.toInt (D.cell 1 (nth r0 1))),.int .i64 (D.toInt (D.cell 2 (nth r0 1)))],.ptr true [.arr true (v8&&decide (List.length (v9++[(v4,v5,v6)])=0)) (.r3 (v9++[(v4,v5,v6)]))]])
 none)
 (lp k spec_l04Root [.ptr true [.arr false v0 (.ints IntKind.u8 v1),.int .i64 v2,.int .i64 v3],.ptr true [.arr true v8 (.r3 v9)]] [] 4 k (qzi v7 0 v0 v1 (D.toInt (D.cell 1 (nth r0 1))) (D.toInt (D.cell 2 (nth r0 1))) v8 v9 v4 v5 v6))):=by kernel_rfl
theorem qrx (k n:Nat)(fu:FU)(v0:Bool)(v1:LI)(v2 v3:Int)(v8:Bool)(v9:L3)(x0 x1:Int)(z2:Bool)(l3:LI)(x4 x5:Int)(z6:Bool)(l7:L3)(x8 x9 x10:Int):lp k spec_l04Root [.ptr true [.arr false v0 (.ints IntKind.u8 v1),.int .i64 v2,.int .i64 v3],.ptr true [.arr true v8 (.r3 v9)]] fu 4 (n+1) (qzi x0 x1 z2 l3 x4 x5 z6 l7 x8 x9 x10)=
 cond (decide (x1<2))
 ((go k spec_ChildOf [.agg [.int .i64 x8,.int .i64 x9,.int .i64 x10],.int .i64 x1]).bind fun r0=>
 (go k spec_l04Root [.ptr true [.arr false z2 (.ints IntKind.u8 l3),.int .i64 x4,.int .i64 x5],.agg [.int .i64 (D.toInt (D.cell 0 (nth r0 0))),.int .i64 (D.toInt (D.cell 1 (nth r0 0))),.int .i64 (D.toInt (D.cell 2 (nth r0 0)))],.int .i64 (IntKind.wrap .i64 (x0+1)),.ptr true [.arr true z6 (.r3 l7)]]).bind fun r1=>
 lp k spec_l04Root [.ptr true [.arr false v0 (.ints IntKind.u8 v1),.int .i64 v2,.int .i64 v3],.ptr true [.arr true v8 (.r3 v9)]] fu 4 n (qzi x0 (IntKind.wrap .i64 (x1+1)) z2 l3 (D.toInt (D.cell 1 (nth r1 0))) (D.toInt (D.cell 2 (nth r1 0))) (D.nil (D.cell 0 (nth r1 1))) (D.r3 (D.cell 0 (nth r1 1))) x8 x9 x10))
 (some [.ptr true [.arr false z2 (.ints IntKind.u8 l3),.int .i64 x4,.int .i64 x5],.ptr true [.arr true z6 (.r3 l7)]]):=by kernel_rfl
def qzh (x0:Int)(z1:Bool)(l2:LI)(x3 x4:Int)(z5:Bool)(l6:L3)(x7:Int)(z8:Bool)(l9:L3)(x10:Int):St:=⟨fill 24 [(0,.ptr 1 0 0),(2,.ptr 3 0 0),(3,.ptr 5 0 0),(4,.int .i64 x0)],[.ptr 1 0 0,.sl 0 none],[.arr false z1 (.ints IntKind.u8 l2),.box true [.sl 0 none,.int .i64 x3,.int .i64 x4],.arr true z5 (.r3 l6),.box true [.int .i64 x7,.sl 2 none],.arr true z8 (.r3 l9),.box true [.int .i64 x10,.sl 4 none]]⟩
theorem qmy (k:Nat)(v0:Bool)(v1:LI)(v2 v3:Int):go (k+1) spec_l04Mesh [.ptr true [.arr false v0 (.ints IntKind.u8 v1),.int .i64 v2,.int .i64 v3]]=
 (go k spec_l01Below [.ptr true [.arr false v0 (.ints IntKind.u8 v1),.int .i64 v2,.int .i64 v3],.int .i64 3]).bind fun r0=>
 lp k spec_l04Mesh [.ptr true [.arr false v0 (.ints IntKind.u8 v1),.int .i64 v2,.int .i64 v3]] [] 3 k (qzh 0 v0 v1 (D.toInt (D.cell 1 (nth r0 1))) (D.toInt (D.cell 2 (nth r0 1))) true [] 0 true [] (IntKind.wrap .i64 (1+D.toInt (nth r0 0)))):=by kernel_rfl
theorem qrw (k n:Nat)(fu:FU)(v0:Bool)(v1:LI)(v2 v3 x0:Int)(z1:Bool)(l2:LI)(x3 x4:Int)(z5:Bool)(l6:L3)(x7:Int)(z8:Bool)(l9:L3)(x10:Int):lp k spec_l04Mesh [.ptr true [.arr false v0 (.ints IntKind.u8 v1),.int .i64 v2,.int .i64 v3]] fu 3 (n+1) (qzh x0 z1 l2 x3 x4 z5 l6 x7 z8 l9 x10)=
 cond (decide (x0<x10))
 ((go k spec_l01Below [.ptr true [.arr false z1 (.ints IntKind.u8 l2),.int .i64 x3,.int .i64 x4],.int .i64 2]).bind fun r0=>
 (go k spec_l04Root [.ptr true [.arr false z1 (.ints IntKind.u8 l2),.int .i64 (D.toInt (D.cell 1 (nth r0 1))),.int .i64 (D.toInt (D.cell 2 (nth r0 1)))],.agg [.int .i64 x0,.int .i64 0,.int .i64 0],.int .i64 (IntKind.wrap .i64 (1+D.toInt (nth r0 0))),.ptr true [.arr true z8 (.r3 l9)]]).bind fun r1=>
 lp k spec_l04Mesh [.ptr true [.arr false v0 (.ints IntKind.u8 v1),.int .i64 v2,.int .i64 v3]] fu 3 n (qzh (IntKind.wrap .i64 (x0+1)) z1 l2 (D.toInt (D.cell 1 (nth r1 0))) (D.toInt (D.cell 2 (nth r1 0))) z5 l6 x7 (D.nil (D.cell 0 (nth r1 1))) (D.r3 (D.cell 0 (nth r1 1))) x10))
 (some [.agg [.int .i64 x10,.arr true z8 (.r3 l9)],.ptr true [.arr false z1 (.ints IntKind.u8 l2),.int .i64 x3,.int .i64 x4]]):=by kernel_rfl
def qy4 (x0:Int)(z1:Bool)(l2:L3)(x3:Int)(z4:Bool)(l5:L3)(x6:Int):St:=⟨fill 23 [(2,.ptr 1 0 0),(3,.ptr 3 0 0),(4,.int .i64 x0)],[],[.arr true z1 (.r3 l2),.box true [.int .i64 x3,.sl 0 none],.arr true z4 (.r3 l5),.box true [.int .i64 x6,.sl 2 none]]⟩
theorem qlv (k:Nat)(a0:Int)(a1z:Bool)(a1:L3):go (k+1) spec_Balance [.agg [.int .i64 a0,.arr false a1z (.r3 a1)]]=
 (go k spec_l04Copy [.agg [.int .i64 a0,.arr false a1z (.r3 a1)]]).bind fun r0=>
 (go k spec_MeshOk [.agg [.int .i64 a0,.arr false a1z (.r3 a1)]]).bind fun r1=>
 cond (!bit (nth r1 0))
 (some [.agg [.int .i64 (D.toInt (D.cell 0 (nth r0 0))),.arr true (D.nil (D.cell 1 (nth r0 0))) (.r3 (D.r3 (D.cell 1 (nth r0 0))))]])
 ((go k spec_l05First [.agg [.int .i64 (D.toInt (D.cell 0 (nth r0 0))),.arr false (D.nil (D.cell 1 (nth r0 0))) (.r3 (D.r3 (D.cell 1 (nth r0 0))))]]).bind fun r2=>
 lp k spec_Balance [] [] 5 k (qy4 (D.toInt (nth r2 0)) true [] 0 (D.nil (D.cell 1 (nth r0 0))) (D.r3 (D.cell 1 (nth r0 0))) (D.toInt (D.cell 0 (nth r0 0))))):=by kernel_rfl
theorem qrj (k n:Nat)(fu:FU)(x0:Int)(z1:Bool)(l2:L3)(x3:Int)(z4:Bool)(l5:L3)(x6:Int):lp k spec_Balance [] fu 5 (n+1) (qy4 x0 z1 l2 x3 z4 l5 x6)=
 cond (decide (0≤x0))
 ((go k spec_l05Coarser [.agg [.int .i64 x6,.arr false z4 (.r3 l5)],.int .i64 x0]).bind fun r0=>
 (go k spec_l05Split [.agg [.int .i64 x6,.arr false z4 (.r3 l5)],.int .i64 (D.toInt (nth r0 0))]).bind fun r1=>
 (go k spec_l05First [.agg [.int .i64 (D.toInt (D.cell 0 (nth r1 0))),.arr false (D.nil (D.cell 1 (nth r1 0))) (.r3 (D.r3 (D.cell 1 (nth r1 0))))]]).bind fun r2=>
 lp k spec_Balance [] fu 5 n (qy4 (D.toInt (nth r2 0)) z1 l2 x3 (D.nil (D.cell 1 (nth r1 0))) (D.r3 (D.cell 1 (nth r1 0))) (D.toInt (D.cell 0 (nth r1 0)))))
 (some [.agg [.int .i64 x6,.arr true z4 (.r3 l5)]]):=by kernel_rfl
theorem qm0 (k:Nat)(a0:Int)(a1z:Bool)(a1:L3)(b:Int):go (k+1) spec_l05Coarser [.agg [.int .i64 a0,.arr false a1z (.r3 a1)],.int .i64 b]=
 cond (decide (0≤b)&&decide (b<nI (List.length a1)))
 (cond (decide (0≤IntKind.wrap .i64 (b+1))&&decide (IntKind.wrap .i64 (b+1)<nI (List.length a1)))
 (cond (decide (Prod.fst (Prod.snd (List.getD a1 (Int.toNat (IntKind.wrap .i64 (b+1))) zz3))<Prod.fst (Prod.snd (List.getD a1 (Int.toNat b) zz3))))
 (some [.int .i64 (IntKind.wrap .i64 (b+1))])
 (some [.int .i64 b]))
 none)
 none:=by kernel_rfl
theorem qm4 (k:Nat)(a0:Int)(a1z:Bool)(a1:L3)(b:Int):go (k+1) spec_l05Split [.agg [.int .i64 a0,.arr false a1z (.r3 a1)],.int .i64 b]=
 cond (decide (0≤b)&&decide (b<nI (List.length a1)))
 ((go k spec_ChildOf [.agg [.int .i64 (Prod.fst (List.getD a1 (Int.toNat b) zz3)),.int .i64 (Prod.fst (Prod.snd (List.getD a1 (Int.toNat b) zz3))),.int .i64 (Prod.snd (Prod.snd (List.getD a1 (Int.toNat b) zz3)))],.int .i64 0]).bind fun r0=>
 cond (decide (0≤b)&&decide (b<nI (List.length a1)))
 ((go k spec_ChildOf [.agg [.int .i64 (Prod.fst (List.getD a1 (Int.toNat b) zz3)),.int .i64 (Prod.fst (Prod.snd (List.getD a1 (Int.toNat b) zz3))),.int .i64 (Prod.snd (Prod.snd (List.getD a1 (Int.toNat b) zz3)))],.int .i64 1]).bind fun r1=>
 cond (decide (0≤0)&&decide (0≤b)&&decide (b≤nI (List.length a1)))
 (cond (decide (List.length ([]++List.take (Int.toNat b - Int.toNat 0) (List.drop (0+Int.toNat 0) a1))≤bigLen))
 (cond (decide (List.length ([]++List.take (Int.toNat b - Int.toNat 0) (List.drop (0+Int.toNat 0) a1)++[(D.toInt (D.cell 0 (nth r0 0)),D.toInt (D.cell 1 (nth r0 0)),D.toInt (D.cell 2 (nth r0 0))),(D.toInt (D.cell 0 (nth r1 0)),D.toInt (D.cell 1 (nth r1 0)),D.toInt (D.cell 2 (nth r1 0)))])≤bigLen))
 (cond (decide (0≤IntKind.wrap .i64 (b+1))&&decide (IntKind.wrap .i64 (b+1)≤nI (List.length a1))&&decide (nI (List.length a1)≤nI (List.length a1)))
 (cond (decide (List.length ([]++List.take (Int.toNat b - Int.toNat 0) (List.drop (0+Int.toNat 0) a1)++[(D.toInt (D.cell 0 (nth r0 0)),D.toInt (D.cell 1 (nth r0 0)),D.toInt (D.cell 2 (nth r0 0))),(D.toInt (D.cell 0 (nth r1 0)),D.toInt (D.cell 1 (nth r1 0)),D.toInt (D.cell 2 (nth r1 0)))]++List.take (Int.toNat (nI (List.length a1)) - Int.toNat (IntKind.wrap .i64 (b+1))) (List.drop (0+Int.toNat (IntKind.wrap .i64 (b+1))) a1))≤bigLen))
 (some [.agg [.int .i64 a0,.arr true (false&&decide (List.length ([]++List.take (Int.toNat b - Int.toNat 0) (List.drop (0+Int.toNat 0) a1))=0)&&decide (List.length ([]++List.take (Int.toNat b - Int.toNat 0) (List.drop (0+Int.toNat 0) a1)++[(D.toInt (D.cell 0 (nth r0 0)),D.toInt (D.cell 1 (nth r0 0)),D.toInt (D.cell 2 (nth r0 0))),(D.toInt (D.cell 0 (nth r1 0)),D.toInt (D.cell 1 (nth r1 0)),D.toInt (D.cell 2 (nth r1 0)))])=0)&&decide (List.length ([]++List.take (Int.toNat b - Int.toNat 0) (List.drop (0+Int.toNat 0) a1)++[(D.toInt (D.cell 0 (nth r0 0)),D.toInt (D.cell 1 (nth r0 0)),D.toInt (D.cell 2 (nth r0 0))),(D.toInt (D.cell 0 (nth r1 0)),D.toInt (D.cell 1 (nth r1 0)),D.toInt (D.cell 2 (nth r1 0)))]++List.take (Int.toNat (nI (List.length a1)) - Int.toNat (IntKind.wrap .i64 (b+1))) (List.drop (0+Int.toNat (IntKind.wrap .i64 (b+1))) a1))=0)) (.r3 ([]++List.take (Int.toNat b - Int.toNat 0) (List.drop (0+Int.toNat 0) a1)++[(D.toInt (D.cell 0 (nth r0 0)),D.toInt (D.cell 1 (nth r0 0)),D.toInt (D.cell 2 (nth r0 0))),(D.toInt (D.cell 0 (nth r1 0)),D.toInt (D.cell 1 (nth r1 0)),D.toInt (D.cell 2 (nth r1 0)))]++List.take (Int.toNat (nI (List.length a1)) - Int.toNat (IntKind.wrap .i64 (b+1))) (List.drop (0+Int.toNat (IntKind.wrap .i64 (b+1))) a1)))]])
 none)
 none)
 none)
 none)
 none)
 none)
 none:=by kernel_rfl
theorem qm3 (k:Nat)(v0:Bool)(v1:LI)(v2 v3:Int):go (k+1) spec_l05Mesh [.ptr true [.arr false v0 (.ints IntKind.u8 v1),.int .i64 v2,.int .i64 v3]]=
 (go k spec_l04Mesh [.ptr true [.arr false v0 (.ints IntKind.u8 v1),.int .i64 v2,.int .i64 v3]]).bind fun r0=>
 (go k spec_Balance [.agg [.int .i64 (D.toInt (D.cell 0 (nth r0 0))),.arr false (D.nil (D.cell 1 (nth r0 0))) (.r3 (D.r3 (D.cell 1 (nth r0 0))))]]).bind fun r1=>
 some [.agg [.int .i64 (D.toInt (D.cell 0 (nth r1 0))),.arr true (D.nil (D.cell 1 (nth r1 0))) (.r3 (D.r3 (D.cell 1 (nth r1 0))))],.ptr true [.arr false v0 (.ints IntKind.u8 v1),.int .i64 (D.toInt (D.cell 1 (nth r0 1))),.int .i64 (D.toInt (D.cell 2 (nth r0 1)))]]:=by kernel_rfl
def qzk (x0:Int)(z1:Bool)(l2:LI)(x3 x4:Int)(z5:Bool)(l6:L3)(z7:Bool)(l8:LI)(z9:Bool)(l10:LI)(z11:Bool)(l12:LI)(x13:Int)(z14:Bool)(l15:L3)(x16:Int)(z17:Bool)(l18:LI)(z19:Bool)(l20:LI)(z21:Bool)(l22:LI)(x23:Int):St:=⟨fill 67 [(0,.ptr 1 0 0),(2,.ptr 6 0 0),(3,.ptr 8 0 0),(4,.ptr 12 0 0),(5,.int .i64 x0)],[.ptr 1 0 0,.sl 0 none],[.arr false z1 (.ints IntKind.u8 l2),.box true [.sl 0 none,.int .i64 x3,.int .i64 x4],.arr true z5 (.r3 l6),.arr true z7 (.ints .i64 l8),.arr true z9 (.ints .i64 l10),.arr true z11 (.ints .i64 l12),sB true 2 x13,.arr true z14 (.r3 l15),.box true [.int .i64 x16,.sl 7 none],.arr true z17 (.ints .i64 l18),.arr true z19 (.ints .i64 l20),.arr true z21 (.ints .i64 l22),.box true [.int .i64 x23,.sl 7 none,.sl 9 none,.sl 10 none,.sl 11 none]]⟩
def qzl (x0 x1:Int)(z2:Bool)(l3:LI)(x4 x5:Int)(z6:Bool)(l7:L3)(z8:Bool)(l9:LI)(z10:Bool)(l11:LI)(z12:Bool)(l13:LI)(x14:Int)(z15:Bool)(l16:L3)(x17:Int)(z18:Bool)(l19:LI)(z20:Bool)(l21:LI)(z22:Bool)(l23:LI)(x24:Int):St:=⟨fill 67 [(0,.ptr 1 0 0),(2,.ptr 6 0 0),(3,.ptr 8 0 0),(4,.ptr 12 0 0),(6,.int .i64 x0),(7,.int .i64 x1)],[.ptr 1 0 0,.sl 0 none],[.arr false z2 (.ints IntKind.u8 l3),.box true [.sl 0 none,.int .i64 x4,.int .i64 x5],.arr true z6 (.r3 l7),.arr true z8 (.ints .i64 l9),.arr true z10 (.ints .i64 l11),.arr true z12 (.ints .i64 l13),sB true 2 x14,.arr true z15 (.r3 l16),.box true [.int .i64 x17,.sl 7 none],.arr true z18 (.ints .i64 l19),.arr true z20 (.ints .i64 l21),.arr true z22 (.ints .i64 l23),.box true [.int .i64 x24,.sl 7 none,.sl 9 none,.sl 10 none,.sl 11 none]]⟩
theorem qm8 (k:Nat)(v0:Bool)(v1:LI)(v2 v3:Int):go (k+1) spec_l07State [.ptr true [.arr false v0 (.ints IntKind.u8 v1),.int .i64 v2,.int .i64 v3]]=
 (go k spec_l05Mesh [.ptr true [.arr false v0 (.ints IntKind.u8 v1),.int .i64 v2,.int .i64 v3]]).bind fun r0=>
 lp k spec_l07State [.ptr true [.arr false v0 (.ints IntKind.u8 v1),.int .i64 v2,.int .i64 v3]] [] 4 k (qzk 0 v0 v1 (D.toInt (D.cell 1 (nth r0 1))) (D.toInt (D.cell 2 (nth r0 1))) true [] true [] true [] true [] 0 (D.nil (D.cell 1 (nth r0 0))) (D.r3 (D.cell 1 (nth r0 0))) (D.toInt (D.cell 0 (nth r0 0))) true [] true [] true [] (D.toInt (D.cell 0 (nth r0 0)))):=by kernel_rfl
theorem qrz (k n:Nat)(fu:FU)(v0:Bool)(v1:LI)(v2 v3 x0:Int)(z1:Bool)(l2:LI)(x3 x4:Int)(z5:Bool)(l6:L3)(z7:Bool)(l8:LI)(z9:Bool)(l10:LI)(z11:Bool)(l12:LI)(x13:Int)(z14:Bool)(l15:L3)(x16:Int)(z17:Bool)(l18:LI)(z19:Bool)(l20:LI)(z21:Bool)(l22:LI)(x23:Int):lp k spec_l07State [.ptr true [.arr false v0 (.ints IntKind.u8 v1),.int .i64 v2,.int .i64 v3]] fu 4 (n+1) (qzk x0 z1 l2 x3 x4 z5 l6 z7 l8 z9 l10 z11 l12 x13 z14 l15 x16 z17 l18 z19 l20 z21 l22 x23)=
 cond (decide (x0<x16))
 ((go k spec_l01Below [.ptr true [.arr false z1 (.ints IntKind.u8 l2),.int .i64 x3,.int .i64 x4],.int .i64 4]).bind fun r0=>
 (go k spec_l01Below [.ptr true [.arr false z1 (.ints IntKind.u8 l2),.int .i64 (D.toInt (D.cell 1 (nth r0 1))),.int .i64 (D.toInt (D.cell 2 (nth r0 1)))],.int .i64 5000]).bind fun r1=>
 cond (decide (List.length (l22++[IntKind.wrap .i64 (D.toInt (nth r0 0)*D.toInt (nth r1 0))])≤bigLen))
 (lp k spec_l07State [.ptr true [.arr false v0 (.ints IntKind.u8 v1),.int .i64 v2,.int .i64 v3]] fu 4 n (qzk (IntKind.wrap .i64 (x0+1)) z1 l2 (D.toInt (D.cell 1 (nth r1 1))) (D.toInt (D.cell 2 (nth r1 1))) z5 l6 z7 l8 z9 l10 z11 l12 x13 z14 l15 x16 z17 l18 z19 l20 (z21&&decide (List.length (l22++[IntKind.wrap .i64 (D.toInt (nth r0 0)*D.toInt (nth r1 0))])=0)) (l22++[IntKind.wrap .i64 (D.toInt (nth r0 0)*D.toInt (nth r1 0))]) x23))
 none)
 ((go k spec_l01Below [.ptr true [.arr false z1 (.ints IntKind.u8 l2),.int .i64 x3,.int .i64 x4],.int .i64 20000]).bind fun r2=>
 lp k spec_l07State [.ptr true [.arr false v0 (.ints IntKind.u8 v1),.int .i64 v2,.int .i64 v3]] fu 9 k (qzl (IntKind.wrap .i64 (1+D.toInt (nth r2 0))) 0 z1 l2 (D.toInt (D.cell 1 (nth r2 1))) (D.toInt (D.cell 2 (nth r2 1))) z5 l6 z7 l8 z9 l10 z11 l12 x13 z14 l15 x16 z17 l18 z19 l20 z21 l22 x23)):=by kernel_rfl
theorem qr0 (k n:Nat)(fu:FU)(v0:Bool)(v1:LI)(v2 v3 x0 x1:Int)(z2:Bool)(l3:LI)(x4 x5:Int)(z6:Bool)(l7:L3)(z8:Bool)(l9:LI)(z10:Bool)(l11:LI)(z12:Bool)(l13:LI)(x14:Int)(z15:Bool)(l16:L3)(x17:Int)(z18:Bool)(l19:LI)(z20:Bool)(l21:LI)(z22:Bool)(l23:LI)(x24:Int):lp k spec_l07State [.ptr true [.arr false v0 (.ints IntKind.u8 v1),.int .i64 v2,.int .i64 v3]] fu 9 (n+1) (qzl x0 x1 z2 l3 x4 x5 z6 l7 z8 l9 z10 l11 z12 l13 x14 z15 l16 x17 z18 l19 z20 l21 z22 l23 x24)=
 cond (decide (x1<nI (List.length l16)))
 ((go k spec_l01Below [.ptr true [.arr false z2 (.ints IntKind.u8 l3),.int .i64 x4,.int .i64 x5],.int .i64 x0]).bind fun r0=>
 (go k spec_l01Once [.ptr true [.arr false z2 (.ints IntKind.u8 l3),.int .i64 (D.toInt (D.cell 1 (nth r0 1))),.int .i64 (D.toInt (D.cell 2 (nth r0 1)))],.int .i64 6]).bind fun r1=>
 cond (bit (nth r1 0))
 ((go k spec_l01Below [.ptr true [.arr false z2 (.ints IntKind.u8 l3),.int .i64 (D.toInt (D.cell 1 (nth r1 1))),.int .i64 (D.toInt (D.cell 2 (nth r1 1)))],.int .i64 3]).bind fun r2=>
 cond (decide (List.length (l19++[D.toInt (nth r2 0)])≤bigLen))
 ((go k spec_l01Below [.ptr true [.arr false z2 (.ints IntKind.u8 l3),.int .i64 (D.toInt (D.cell 1 (nth r2 1))),.int .i64 (D.toInt (D.cell 2 (nth r2 1)))],.int .i64 200]).bind fun r3=>
 (go k spec_l01Below [.ptr true [.arr false z2 (.ints IntKind.u8 l3),.int .i64 (D.toInt (D.cell 1 (nth r3 1))),.int .i64 (D.toInt (D.cell 2 (nth r3 1)))],.int .i64 (IntKind.wrap .i64 (D.toInt (nth r2 0)+1))]).bind fun r4=>
 cond (decide (List.length (l21++[IntKind.wrap .i64 (IntKind.wrap .i64 (D.toInt (nth r2 0)*D.toInt (nth r3 0))+D.toInt (nth r4 0))])≤bigLen))
 (lp k spec_l07State [.ptr true [.arr false v0 (.ints IntKind.u8 v1),.int .i64 v2,.int .i64 v3]] fu 9 n (qzl x0 (IntKind.wrap .i64 (x1+1)) z2 l3 (D.toInt (D.cell 1 (nth r4 1))) (D.toInt (D.cell 2 (nth r4 1))) z6 l7 z8 l9 z10 l11 z12 l13 x14 z15 l16 x17 (z18&&decide (List.length (l19++[D.toInt (nth r2 0)])=0)) (l19++[D.toInt (nth r2 0)]) (z20&&decide (List.length (l21++[IntKind.wrap .i64 (IntKind.wrap .i64 (D.toInt (nth r2 0)*D.toInt (nth r3 0))+D.toInt (nth r4 0))])=0)) (l21++[IntKind.wrap .i64 (IntKind.wrap .i64 (D.toInt (nth r2 0)*D.toInt (nth r3 0))+D.toInt (nth r4 0))]) z22 l23 x24))
 none)
 none)
 (cond (decide (List.length (l19++[D.toInt (nth r0 0)])≤bigLen))
 ((go k spec_l01Below [.ptr true [.arr false z2 (.ints IntKind.u8 l3),.int .i64 (D.toInt (D.cell 1 (nth r1 1))),.int .i64 (D.toInt (D.cell 2 (nth r1 1)))],.int .i64 200]).bind fun r5=>
 (go k spec_l01Below [.ptr true [.arr false z2 (.ints IntKind.u8 l3),.int .i64 (D.toInt (D.cell 1 (nth r5 1))),.int .i64 (D.toInt (D.cell 2 (nth r5 1)))],.int .i64 (IntKind.wrap .i64 (D.toInt (nth r0 0)+1))]).bind fun r6=>
 cond (decide (List.length (l21++[IntKind.wrap .i64 (IntKind.wrap .i64 (D.toInt (nth r0 0)*D.toInt (nth r5 0))+D.toInt (nth r6 0))])≤bigLen))
 (lp k spec_l07State [.ptr true [.arr false v0 (.ints IntKind.u8 v1),.int .i64 v2,.int .i64 v3]] fu 9 n (qzl x0 (IntKind.wrap .i64 (x1+1)) z2 l3 (D.toInt (D.cell 1 (nth r6 1))) (D.toInt (D.cell 2 (nth r6 1))) z6 l7 z8 l9 z10 l11 z12 l13 x14 z15 l16 x17 (z18&&decide (List.length (l19++[D.toInt (nth r0 0)])=0)) (l19++[D.toInt (nth r0 0)]) (z20&&decide (List.length (l21++[IntKind.wrap .i64 (IntKind.wrap .i64 (D.toInt (nth r0 0)*D.toInt (nth r5 0))+D.toInt (nth r6 0))])=0)) (l21++[IntKind.wrap .i64 (IntKind.wrap .i64 (D.toInt (nth r0 0)*D.toInt (nth r5 0))+D.toInt (nth r6 0))]) z22 l23 x24))
 none)
 none))
 (some [sV true x24 z15 l16 z18 l19 z20 l21 z22 l23,.ptr true [.arr false z2 (.ints IntKind.u8 l3),.int .i64 x4,.int .i64 x5]]):=by kernel_rfl

end Go.Proofs.YtjfjniebmdafeaaGreatDoor
end
section
namespace Go.Proofs.YtjfjniebmdafeaaGreatDoor
open Go.Ev
set_option maxRecDepth 20000
theorem qwt (o:Bool)(d0:D)(l:List D):(D.ptr o (d0::l)).cell 0=d0:=Eq.trans rfl rfl
theorem qwu (o:Bool)(d0 d1:D)(l:List D):(D.ptr o (d0::d1::l)).cell 1=d1:=Eq.trans rfl rfl
theorem qwv (o:Bool)(d0 d1 d2:D)(l:List D):(D.ptr o (d0::d1::d2::l)).cell 2=d2:=Eq.trans rfl rfl
theorem qbt (x:Int):0≤bitN .and .i64 x 255∧bitN .and .i64 x 255≤255:=by
  have h:(BitVec.ofInt IntKind.i64.bits x&&& BitVec.ofInt IntKind.i64.bits 255).toNat≤255:=by
    rw [BitVec.toNat_and]; exact Nat.le_trans Nat.and_le_right (by decide)
  show 0≤IntKind.wrap .i64 _∧IntKind.wrap .i64 _≤255
  rw [q26 (by omega) (by omega)]; omega
theorem qf6 (k:Nat)(hk:2000000≤k)(z:Bool)(l:List Int)(i h:Int)(hl:(l.length:Int)≤1048576)(h0:0≤i)(h1:i≤l.length): ∃ v i' h' :Int,go (k+1) spec_l01Byte [.ptr true [.arr false (z) (.ints .u8 (l)),.int .i64 (i),.int .i64 (h)]]=some [.int .i64 v,.ptr true [.arr false (z) (.ints .u8 (l)),.int .i64 (i'),.int .i64 (h')]]∧(0≤v∧v≤255)∧0≤i' ∧i' ≤l.length:=by
  have e:=qms (k+0) z l i h
  by_cases g:i<l.length
  · simp (disch:=omega) only [wk,bit,nI] at e; exact ⟨_,_,_,e,qbt _,by omega,by omega⟩
  · simp (disch:=omega) only [wk,bit,nI] at e; exact ⟨_,_,_,e,qbt _,by omega,by omega⟩
theorem q16 {v b:Int}(h:0≤v)(hb:1≤b):0≤Int.tmod v b∧Int.tmod v b<b:=⟨Int.tmod_nonneg b h,Int.tmod_lt_of_pos v (by omega)⟩
theorem qf5 (k:Nat)(hk:2000000≤k)(z:Bool)(l:List Int)(i h b:Int)(hl:(l.length:Int)≤1048576)(h0:0≤i)(h1:i≤l.length)(hb:1≤b)(hb' :b≤1000000): ∃ v i' h' :Int,go (k+2) spec_l01Below [.ptr true [.arr false (z) (.ints .u8 (l)),.int .i64 (i),.int .i64 (h)],.int .i64 b]=some [.int .i64 v,.ptr true [.arr false (z) (.ints .u8 (l)),.int .i64 (i'),.int .i64 (h')]]∧(0≤v∧v<b)∧0≤i' ∧i' ≤l.length:=by
  have e:=qmr (k+1) z l i h b
  obtain ⟨v1,i1,k1,e1,b1,q1,r1⟩:=qf6 k (by omega) z l i h hl h0 h1
  by_cases g:b≤256
  · simp (disch:=omega) only [wk,bit,nI,e1,qwu,qwv] at e
    exact ⟨_,_,_,e,q16 b1.1 hb,q1,r1⟩
  · obtain ⟨v2,i2,k2,e2,b2,q2,r2⟩:=qf6 k (by omega) z l i1 k1 hl q1 r1
    obtain ⟨v3,i3,k3,e3,b3,q3,r3⟩:=qf6 k (by omega) z l i2 k2 hl q2 r2
    obtain ⟨v4,i4,k4,e4,b4,q4,r4⟩:=qf6 k (by omega) z l i3 k3 hl q3 r3
    simp (disch:=omega) only [wk,bit,nI,e1,e2,e3,e4,qwu,qwv] at e
    exact ⟨_,_,_,e,q16 (by omega) hb,q4,r4⟩
theorem qf8 (k:Nat)(hk:2000000≤k)(z:Bool)(l:List Int)(i h b:Int)(hl:(l.length:Int)≤1048576)(h0:0≤i)(h1:i≤l.length)(hb:1≤b)(hb' :b≤1000000): ∃ (v:Bool)(i' h' :Int),go (k+3) spec_l01Once [.ptr true [.arr false (z) (.ints .u8 (l)),.int .i64 (i),.int .i64 (h)],.int .i64 b]=some [.bool v,.ptr true [.arr false (z) (.ints .u8 (l)),.int .i64 (i'),.int .i64 (h')]]∧0≤i' ∧i' ≤l.length:=by
  have e:=qmv (k+2) z l i h b
  obtain ⟨v1,i1,k1,e1,b1,q1,r1⟩:=qf5 k (by omega) z l i h b hl h0 h1 hb hb'
  simp (disch:=omega) only [wk,bit,nI,e1,qwu,qwv] at e
  exact ⟨_,_,_,e,q1,r1⟩
theorem qe4 (k:Nat)(hk:2000000≤k)(r v ix b:Int)(hid:idOk r v ix=true)(hv:v<4)(hb:b=0∨b=1):go (k+3) spec_ChildOf [.agg [.int .i64 r,.int .i64 v,.int .i64 ix],.int .i64 b]=some [.agg [.int .i64 r,.int .i64 (v+1),.int .i64 (2*ix+b)],.bool true]:=by
  rw [qlx]
  have h:=qpa.1 hid
  have hp:pow2 v≤16:=by
    rcases lev (qpe.2 h.2.1) with rfl | rfl | rfl | rfl | rfl<;>decide
  have hi:inR b 0 1=true:=qpe.2 (by omega)
  simp (disch:=omega) only [wk,bit,nI,qfg,hid,qf7,hi]
def qak (K : Nat) (z : Bool) (l : List Int) (v : Int) (N : Nat) : Prop := ∀ (r ix c i h : Int) (q : Bool) (out : List Cell), idOk r v ix = true → 1 ≤ c → c ≤ 90 + v → 0 ≤ i → i ≤ l.length → out.length + N ≤ 4096 →
    ∃ (new:List Cell)(i' h' :Int),go K spec_l04Root [.ptr true [.arr false (z) (.ints .u8 (l)),.int .i64 (i),.int .i64 (h)],.agg [.int .i64 r,.int .i64 v,.int .i64 ix],.int .i64 c,.ptr true [.arr true q (.r3 out)]]=some [.ptr true [.arr false (z) (.ints .u8 (l)),.int .i64 (i'),.int .i64 (h')],.ptr true [.arr true false (.r3 (out++new))]]∧(0≤i' ∧i' ≤l.length)∧(1≤new.length∧new.length≤N)∧okp (q00 r v ix) new=true∧endp (q00 r v ix) new=q00 r v ix+q2x v
theorem qxq {r v ix:Int}(hid:idOk r v ix=true):okp (q00 r v ix) [(r,v,ix)]=true∧endp (q00 r v ix) [(r,v,ix)]=q00 r v ix+q2x v:=
  ⟨qv5.2 ⟨hid,rfl,rfl⟩,rfl⟩
theorem qxp (k:Nat)(hk:2000000≤k)(z:Bool)(l:List Int)(hl:(l.length:Int)≤1048576):qak (k+4) z l 4 1:=by
  intro r ix c i h q out hid hc hc' h0 h1 ho
  have e:=qmz (k+3) z l i h r 4 ix c q out
  have lo:(out++[(r,(4:Int),ix)]).length=out.length+1:=by simp
  simp (disch:=omega) only [wk,bit,nI] at e
  exact ⟨[(r,4,ix)],i,h,e,⟨h0,h1⟩,by simp,qxq hid⟩
theorem qxr (k:Nat)(hk:2000000≤k)(z:Bool)(l:List Int)(hl:(l.length:Int)≤1048576)(v:Int)(h0v:0≤v)(hv:v<4)(N:Nat)(hN:1≤N)(H:qak (k+4) z l (v+1) N):qak (k+4+1) z l v (2*N):=by
  intro r ix c i h q out hid hc hc' h0 h1 ho
  have e:=qmz (k+4) z l i h r v ix c q out
  have lo:(out++[(r,v,ix)]).length=out.length+1:=by simp
  obtain ⟨b,i1,k1,e1,q1,r1⟩:=qf8 (k+1) (by omega) z l i h c hl h0 h1 hc (by omega)
  cases b
  · simp (disch:=omega) only [wk,bit,nI,e1,qwu,qwv] at e
    exact ⟨[(r,v,ix)],i1,k1,e,⟨q1,r1⟩,⟨by simp,by simp; omega⟩,qxq hid⟩
  · simp (disch:=omega) only [wk,bit,nI,e1,qwu,qwv] at e
    have ch:=qh5 hid hv
    obtain ⟨n1,i2,k2,e2,p2,s2,o2,d2⟩:=H r (2*ix) (c+1) i1 k1 q out ch.1 (by omega) (by omega) q1 r1 (by omega)
    have l2:(out++n1).length=out.length+n1.length:=List.length_append ..
    obtain ⟨n2,i3,k3,e3,p3,s3,o3,d3⟩:=H r (2*ix+1) (c+1) i2 k2 false (out++n1) ch.2.1 (by omega) (by omega) p2.1 p2.2 (by omega)
    have cA:=qe4 (k+1) (by omega) r v ix 0 hid hv (Or.inl rfl)
    have cB:=qe4 (k+1) (by omega) r v ix 1 hid hv (Or.inr rfl)
    rw [Int.add_zero] at cA
    have f0:=qrx (k+4) (k+3) [] z l i h q out c 0 z l i1 k1 q out r v ix
    have f1:=qrx (k+4) (k+2) [] z l i h q out c 1 z l i2 k2 false (out++n1) r v ix
    have f2:=qrx (k+4) (k+1) [] z l i h q out c 2 z l i3 k3 false (out++n1++n2) r v ix
    have w1:IntKind.wrap .i64 (c+1)=c+1:=q26 (by omega) (by omega)
    have w2:IntKind.wrap .i64 ((0:Int)+1)=1:=by rw [q26 (by omega) (by omega)]; rfl
    have w3:IntKind.wrap .i64 ((1:Int)+1)=2:=by rw [q26 (by omega) (by omega)]; rfl
    simp (disch:=omega) only [wk,bit,nI] at f2
    simp (disch:=omega) only [wk,bit,nI,cB,w1,w3,e3,qwt,qwu,qwv,f2] at f1
    simp (disch:=omega) only [wk,bit,nI,cA,w1,w2,e2,qwt,qwu,qwv,f1] at f0
    rw [f0,List.append_assoc] at e
    refine ⟨n1++n2,i3,k3,e,p3,?_,?_,?_⟩
    · rw [List.length_append]; omega
    · rw [qv4,Bool.and_eq_true]
      rw [ch.2.2.1] at o2 d2
      rw [ch.2.2.2.1] at o3
      exact ⟨o2,by rw [d2]; exact o3⟩
    · rw [qn1]
      rw [ch.2.2.1] at d2
      rw [ch.2.2.2.1] at d3
      rw [d2,d3,Int.add_assoc,ch.2.2.2.2]
theorem qgc (k:Nat)(hk:2000000≤k)(z:Bool)(l:List Int)(hl:(l.length:Int)≤1048576):qak (k+8) z l 0 16:=
  qxr (k+3) (by omega) z l hl 0 (by omega) (by omega) 8 (by omega) (qxr (k+2) (by omega) z l hl 1 (by omega) (by omega) 4 (by omega) (qxr (k+1) (by omega) z l hl 2 (by omega) (by omega) 2 (by omega) (qxr k hk z l hl 3 (by omega) (by omega) 1 (by omega) (qxp k hk z l hl))))
end Go.Proofs.YtjfjniebmdafeaaGreatDoor
end
section
namespace Go.Proofs.YtjfjniebmdafeaaGreatDoor
open Go.Ev
set_option maxRecDepth 20000
theorem qui (k:Nat)(hk:2000000≤k)(fu:List (Nat×Nat))(v0:Bool)(v1:List Int)(v2 v3:Int)(z:Bool)(l:List Int)(hl:(l.length:Int)≤1048576)(z5:Bool)(l6:List Cell)(x7:Int)(R:Nat)(hR:1≤R)(hR' :R≤3): ∀ (n t:Nat)(i h:Int)(q:Bool)(out:List Cell),t≤R→R - t<n→0≤i→i≤l.length→(q=false∨t=0)→out.length≤16*t→okp 0 out=true→endp 0 out=16*t→
    ∃ (out' :List Cell)(i' h' :Int),lp (k+8) spec_l04Mesh [(.ptr true [(.arr false (v0) (.ints IntKind.u8 (v1))),(.int .i64 (v2)),(.int .i64 (v3))])] fu 3 (n) (qzh (t:Int) z l i h z5 l6 x7 q out (R:Int))=some [.agg [.int .i64 (R:Int),.arr true false (.r3 out')],.ptr true [.arr false (z) (.ints .u8 (l)),.int .i64 (i'),.int .i64 (h')]]∧(0≤i' ∧i' ≤l.length)∧qu6 R 0 out' =true
  | 0,t,i,h,q,out,ht,hn,h0,h1,hq,ho,o,d=>by omega
  | n+1,t,i,h,q,out,ht,hn,h0,h1,hq,ho,o,d=>by
    have e:=qrw (k+8) n fu v0 v1 v2 v3 (t:Int) z l i h z5 l6 x7 q out (R:Int)
    by_cases g:t<R
    · obtain ⟨v,i1,k1,e1,b1,q1,r1⟩:=qf5 (k+6) (by omega) z l i h 2 hl h0 h1 (by omega) (by omega)
      have id:idOk (t:Int) 0 0=true:=qpa.2 ⟨by omega,by omega,by omega,by decide⟩
      obtain ⟨n1,i2,k2,e2,p2,s2,o2,d2⟩:=qgc k (by omega) z l hl (t:Int) 0 (1+v) i1 k1 q out id (by omega) (by omega) q1 r1 (by omega)
      have st:q00 (t:Int) 0 0=16*t:=by rw [q02 id]; omega
      rw [st] at o2 d2
      have lo:(out++n1).length=out.length+n1.length:=List.length_append ..
      obtain ⟨out',i',h',e3,p3,o3⟩:=qui k hk fu v0 v1 v2 v3 z l hl z5 l6 x7 R hR hR' n (t+1) i2 k2 false (out++n1) (by omega) (by omega) p2.1 p2.2 (Or.inl rfl) (by omega) (by rw [qv4,d,Bool.and_eq_true]; exact ⟨o,o2⟩) (by rw [qn1,d,d2,w0]; omega)
      simp (disch:=omega) only [wk,bit,nI,e1,qwt,qwu,qwv,e2,e3] at e
      exact ⟨out',i',h',e,p3,o3⟩
    · have:t=R:=by omega
      subst this
      rcases hq with rfl | h
      · simp (disch:=omega) only [wk,bit,nI] at e
        exact ⟨out,i,h,e,⟨h0,h1⟩,qu8.2 ⟨o,by omega,by rw [d]; omega⟩⟩
      · omega
theorem qgb (k:Nat)(hk:2000000≤k)(z:Bool)(l:List Int)(i h:Int)(hl:(l.length:Int)≤1048576)(h0:0≤i)(h1:i≤l.length):
    ∃ (r:Int)(out:List Cell)(i' h' :Int),go (k+9) spec_l04Mesh [.ptr true [.arr false (z) (.ints .u8 (l)),.int .i64 (i),.int .i64 (h)]]=some [.agg [.int .i64 r,.arr true false (.r3 out)],.ptr true [.arr false (z) (.ints .u8 (l)),.int .i64 (i'),.int .i64 (h')]]∧(0≤i' ∧i' ≤l.length)∧qu6 r 0 out=true∧r≤3:=by
  have e:=qmy (k+8) z l i h
  obtain ⟨v,i1,k1,e1,b1,q1,r1⟩:=qf5 (k+6) (by omega) z l i h 3 hl h0 h1 (by omega) (by omega)
  obtain ⟨w,rfl⟩: ∃ w:Nat,v=(w:Int):=⟨v.toNat,by omega⟩
  obtain ⟨out,i2,k2,e2,p2,o2⟩:=qui k hk [] z l i h z l hl true [] 0 (1+w) (by omega) (by omega) (k+8) 0 i1 k1 true [] (by omega) (by omega) q1 r1 (Or.inr rfl) (by simp) rfl rfl
  rw [show ((1+w:Nat):Int)=1+(w:Int) by omega,show ((0:Nat):Int)=0 from rfl] at e2
  rw [show ((1+w:Nat):Int)=1+(w:Int) by omega] at o2
  simp (disch:=omega) only [wk,bit,nI,e1,qwt,qwu,qwv,e2] at e
  exact ⟨_,_,_,_,e,p2,o2,by omega⟩
theorem qgd (k:Nat)(hk:2000000≤k)(a0:Int)(a1z:Bool)(a1:List Cell)(i:Nat)(hl:(a1.length:Int)≤1048576)(hi:i+1<a1.length):go (k+1) spec_l05Coarser [.agg [.int .i64 a0,.arr false a1z (.r3 a1)],.int .i64 (i:Int)]=some [.int .i64 ((qh9 a1 i:Nat):Int)]:=by
  rw [qm0]
  unfold qh9
  simp (disch:=omega) only [wk,bit,nI]
  by_cases g:qsj a1 (i+1)<qsj a1 i
  · rw [if_pos g]; simp only [qsj] at g; simp (disch:=omega) only [wk,bit,nI]
  · rw [if_neg g]; simp only [qsj] at g; simp (disch:=omega) only [wk,bit,nI]
theorem q1x {α:Type}(l:List α)(i:Nat):List.take (l.length - i) (List.drop i l)=l.drop i:=by
  apply List.take_of_length_le; rw [List.length_drop]; omega
theorem ton0:Int.toNat 0=0:=Eq.trans rfl rfl
theorem qgh (k:Nat)(hk:2000000≤k)(a0:Int)(a1z:Bool)(a1:List Cell)(i:Nat)(hl:(a1.length:Int)≤1000000)(hi:i<a1.length)(hid:idOk (a1.getD i zz3).1 (a1.getD i zz3).2.1 (a1.getD i zz3).2.2=true)(hv:(a1.getD i zz3).2.1<4):go (k+4) spec_l05Split [.agg [.int .i64 a0,.arr false a1z (.r3 a1)],.int .i64 (i:Int)]=some [.agg [.int .i64 a0,.arr true false (.r3 (q0q a1 i))]]:=by
  rw [qm4]
  have cA:=qe4 k (by omega) _ _ _ 0 hid hv (Or.inl rfl)
  have cB:=qe4 k (by omega) _ _ _ 1 hid hv (Or.inr rfl)
  rw [Int.add_zero] at cA
  have l1:(a1.take i).length=i:=by rw [List.length_take]; omega
  have l2: ∀ x y:Cell,(a1.take i++[x,y]).length=i+2:=fun x y=>by rw [List.length_append,l1]; rfl
  have l3: ∀ x y:Cell,(a1.take i++[x,y]++a1.drop (i+1)).length=a1.length+1:=fun x y=>by rw [List.length_append,l2,List.length_drop]; omega
  simp (disch:=omega) only [wk,bit,nI,cA,cB,ton0,Nat.sub_zero,Nat.zero_add,List.drop_zero,q1x,l1,l2,l3]
  rw [List.append_assoc]; rfl
theorem qt5 (k:Nat)(hk:2000000≤k)(fu:List (Nat×Nat))(z1:Bool)(l2:List Cell)(x3 r:Int): ∀ (N n:Nat)(l:List Cell),N<n→qu6 r 0 l=true→129≤N+l.length→
    lp (k+5) spec_Balance [] fu 5 (n) (qy4 (unb l) z1 l2 x3 false l r)=some [.agg [.int .i64 r,.arr true false (.r3 (balN N l))]]
  | N,0,l,hn,h,hN=>by omega
  | 0,n+1,l,hn,h,hN=>by have:=qvb h; omega
  | N+1,n+1,l,hn,h,hN=>by
    have ml:=qvb h
    have e:=qrj (k+5) n fu (unb l) z1 l2 x3 false l r
    unfold balN
    by_cases g:unb l<0
    · rw [if_pos g]; simp (disch:=omega) only [wk,bit,nI] at e; exact e
    · rw [if_neg g]
      obtain ⟨j,ej,h1,h2⟩:=q2h (by omega:0≤unb l)
      have c:=qia h h1 h2
      have sm:=q0u h c.1 c.2
      have sl:=q0r c.1
      have id:=((qva _ _ _ h).2.2.2.1 _ c.1).2.2
      have IH:=qt5 k hk fu z1 l2 x3 r N n _ (by omega) sm (by omega)
      rw [ej,Int.toNat_natCast]
      rw [ej] at e
      have mv:=qvc _ _ _ sm
      have mm:=qvb sm
      simp (disch:=omega) only [wk,bit,nI,qgd] at e
      rw [qgh (k+1) (by omega) _ _ _ _ (by omega) c.1 id c.2] at e
      simp (disch:=omega) only [wk,bit,nI] at e
      rw [qgf (k+4) (by omega) _ _ _ (by omega) mv] at e
      simp (disch:=omega) only [wk,bit,nI,IH] at e
      exact e
theorem qe2 (k:Nat)(hk:2000000≤k)(a0:Int)(a1z:Bool)(a1:List Cell)(h:qu6 a0 0 a1=true):go (k+6) spec_Balance [.agg [.int .i64 a0,.arr false a1z (.r3 a1)]]=some [.agg [.int .i64 a0,.arr true false (.r3 (bal a1))]]:=by
  rw [qlv]
  have ml:=qvb h
  have mv:=qvc _ _ _ h
  simp (disch:=omega) only [wk,bit,nI,qf9,qfo,h]
  rw [qgf (k+4) (by omega) _ _ _ (by omega) mv]
  simp (disch:=omega) only [wk,bit,nI]
  exact qt5 k hk [] true [] 0 a0 _ _ a1 (by omega) h (by omega)
theorem qgg (k:Nat)(hk:2000000≤k)(z:Bool)(l:List Int)(i h:Int)(hl:(l.length:Int)≤1048576)(h0:0≤i)(h1:i≤l.length):
    ∃ (r:Int)(out:List Cell)(i' h' :Int),go (k+10) spec_l05Mesh [.ptr true [.arr false (z) (.ints .u8 (l)),.int .i64 (i),.int .i64 (h)]]=some [.agg [.int .i64 r,.arr true false (.r3 out)],.ptr true [.arr false (z) (.ints .u8 (l)),.int .i64 (i'),.int .i64 (h')]]∧(0≤i' ∧i' ≤l.length)∧qu6 r 0 out=true∧unb out<0∧r≤3:=by
  have e:=qm3 (k+9) z l i h
  obtain ⟨r,out,i1,k1,e1,q1,m1,r1⟩:=qgb k (by omega) z l i h hl h0 h1
  have e2:=qe2 (k+3) (by omega) r false out m1
  simp (disch:=omega) only [wk,bit,nI,e1,e2,qwt,qwu,qwv] at e
  exact ⟨_,_,_,_,e,q1,(qbn m1).1,(qbn m1).2,r1⟩
end Go.Proofs.YtjfjniebmdafeaaGreatDoor
end
section
namespace Go.Proofs.YtjfjniebmdafeaaGreatDoor
open Go.Ev
set_option maxRecDepth 20000
theorem q2d (o:Bool)(d0 d1 d2 d3:D)(l:List D):(D.ptr o (d0::d1::d2::d3::l)).cell 3=d3:=Eq.trans rfl rfl
theorem q2e (o:Bool)(d0 d1 d2 d3 d4:D)(l:List D):(D.ptr o (d0::d1::d2::d3::d4::l)).cell 4=d4:=Eq.trans rfl rfl
theorem qfu (k:Nat)(hk:2000000≤k)(a:Int)(h:0≤a)(h' :a≤1000000000):go (k+1) spec_SplitEven [(.int .i64 (a))]=some [.int .i64 (hA a),.int .i64 (hB a)]:=by
  rw [qml]
  have e:Int.tdiv a 2=a / 2:=Int.tdiv_eq_ediv_of_nonneg h
  rw [e]
  simp (disch:=omega) only [wk,bit,nI]
theorem qc3 (k:Nat)(hk:2000000≤k)(a:Int)(h:0≤a)(h' :a≤1000000000):go (k+1) impl_SplitEven [(.int .i64 (a))]=some [.int .i64 (hA a),.int .i64 (hB a)]:=by
  rw [qj3]
  have e:Int.tdiv a 2=a / 2:=Int.tdiv_eq_ediv_of_nonneg h
  rw [e]
  simp (disch:=omega) only [wk,bit,nI]
theorem qgo (k:Nat)(hk:2000000≤k)(r:Int)(s:S3)(b:List Int)(U:StU r s b)(i:Nat)(hi:i<s.1.length)(hv:qsj s.1 i<4):
    go (k+5) spec_l08Split [.agg [.int .i64 (r),.arr false (false) (.r3 (s.1)),.arr false (false) (.ints .i64 (s.2.1)),.arr false (false) (.ints .i64 (s.2.2)),.arr false (false) (.ints .i64 (b))],.int .i64 (i:Int)]=some [.agg [.int .i64 (r),.arr true (false) (.r3 ((rfS s i).1)),.arr true (false) (.ints .i64 ((rfS s i).2.1)),.arr true (false) (.ints .i64 ((rfS s i).2.2)),.arr true (false) (.ints .i64 (b))]]:=by
  obtain ⟨l,m,t⟩:=s
  simp only at hi hv ⊢
  rw [qnc]
  have L:=U.len; have ml:m.length=l.length:=U.ml; have tl:t.length=l.length:=U.tl; have bl:=U.bl; have rr:=U.rr
  have a:0≤m.getD i 0∧m.getD i 0≤10000000∧0≤t.getD i 0∧t.getD i 0≤1000*m.getD i 0:=U.at i
  simp only at L
  have q:=hAB a.1
  have sh:=q0b ⟨a.1,a.2.1⟩ ⟨a.2.2.1,a.2.2.2⟩
  simp only [shr] at sh
  have m1:(m.take i).length=i:=by rw [List.length_take]; omega
  have t1:(t.take i).length=i:=by rw [List.length_take]; omega
  have l2: ∀ (x:List Int)(p q:Int),x.length=i→(x++[p,q]).length=i+2:=fun x p q h=>by rw [List.length_append,h]; rfl
  have m2:=fun p q=>l2 (m.take i) p q m1
  have t2:=fun p q=>l2 (t.take i) p q t1
  have m3: ∀ p q:Int,(m.take i++[p,q]++m.drop (i+1)).length=l.length+1:=fun p q=>by rw [List.length_append,m2,List.length_drop]; omega
  have t3: ∀ p q:Int,(t.take i++[p,q]++t.drop (i+1)).length=l.length+1:=fun p q=>by rw [List.length_append,t2,List.length_drop]; omega
  have cS:=qgh k (by omega) r false l i (by omega) hi (U.id hi) hv
  simp (disch:=omega) only [wk,bit,nI,qfu,qft,cS,ton0,Nat.sub_zero,Nat.zero_add,List.drop_zero,q1x,m1,t1,m2,t2,m3,t3]
  rw [List.append_assoc,List.append_assoc]
  rfl
theorem qcw (k:Nat)(hk:2000000≤k)(r:Int)(l:List Cell)(h:qu6 r 0 l=true)(i:Nat)(hi:i<l.length)(hv:qsj l i<4):
    go (k+2) impl_Mesh_refine [.ptr true [.int .i64 r,.arr true false (.r3 l)],.int .i64 (i:Int)]=some [.ptr true [.int .i64 r,.arr true false (.r3 (q0q l i))]]:=by
  rw [qju]
  have L:=qvb h
  have id:=qpa.1 ((qva _ _ _ h).2.2.2.1 _ hi).2.2
  have hp:pow2 (l.getD i zz3).2.1≤16:=by
    rcases lev (qpe.2 id.2.1) with e | e | e | e | e<;>rw [e]<;>decide
  have eR:=qey k false false l [ch0 (l.getD i zz3),ch1 (l.getD i zz3)] (i:Int) ((i+1:Nat):Int) (by omega) (by omega) (by omega) (by simp) (by simp<;>omega) (by omega) (by simp)
  rw [Int.toNat_natCast,Int.toNat_natCast] at eR
  simp only [qsj] at hv
  simp (disch:=omega) only [wk,bit,nI,qk1,Int.add_zero,eR]
  rw [List.append_assoc]; rfl
theorem qee (k:Nat)(hk:2000000≤k)(r:Int)(s:S3)(b:List Int)(U:StU r s b)(i:Nat)(hi:i<s.1.length)(hv:qsj s.1 i<4):
    go (k+3) impl_State_refine [.ptr true [.int .i64 (r),.arr true (false) (.r3 (s.1)),.arr true (false) (.ints .i64 (s.2.1)),.arr true (false) (.ints .i64 (s.2.2)),.arr true (false) (.ints .i64 (b))],.int .i64 (i:Int)]=some [.ptr true [.int .i64 (r),.arr true (false) (.r3 ((rfS s i).1)),.arr true (false) (.ints .i64 ((rfS s i).2.1)),.arr true (false) (.ints .i64 ((rfS s i).2.2)),.arr true (false) (.ints .i64 (b))]]:=by
  obtain ⟨l,m,t⟩:=s
  simp only at hi hv ⊢
  rw [qkn]
  have L:=U.len; have ml:m.length=l.length:=U.ml; have tl:t.length=l.length:=U.tl; have bl:=U.bl; have rr:=U.rr
  have a:0≤m.getD i 0∧m.getD i 0≤10000000∧0≤t.getD i 0∧t.getD i 0≤1000*m.getD i 0:=U.at i
  simp only at L
  have q:=hAB a.1
  have sh:=q0b ⟨a.1,a.2.1⟩ ⟨a.2.2.1,a.2.2.2⟩
  simp only [shr] at sh
  have eM:=qcw k (by omega) r l U.mesh i hi hv
  have e1:=qez (k+1) false false m [hA (m.getD i 0),hB (m.getD i 0)] (i:Int) ((i+1:Nat):Int) (by omega) (by omega) (by omega) (by simp) (by simp<;>omega) (by omega) (by simp)
  have e2:=qez (k+1) false false t [qz4 (t.getD i 0) (hA (m.getD i 0)) (m.getD i 0),t.getD i 0 - qz4 (t.getD i 0) (hA (m.getD i 0)) (m.getD i 0)] (i:Int) ((i+1:Nat):Int) (by omega) (by omega) (by omega) (by simp) (by simp<;>omega) (by omega) (by simp)
  rw [Int.toNat_natCast,Int.toNat_natCast] at e1 e2
  simp (disch:=omega) only [wk,bit,nI,qc3,qc2,eM,e1,e2,qwt,qwu,qwv]
  rw [List.append_assoc,List.append_assoc]
  rfl
theorem qfp {a:Cell}(hid:idOk a.1 a.2.1 a.2.2=true)(hv:1≤a.2.1)(k:Nat)(hk:2000000≤k):go (k+3) spec_ParentOf [.agg [.int .i64 a.1,.int .i64 a.2.1,.int .i64 a.2.2]]=some [.agg [.int .i64 (par a).1,.int .i64 (par a).2.1,.int .i64 (par a).2.2],.bool true]:=by
  have id:=qpa.1 hid
  have hp:pow2 a.2.1≤16:=by
    rcases lev (qpe.2 id.2.1) with e | e | e | e | e<;>rw [e]<;>decide
  have e:Int.tdiv a.2.2 2=a.2.2 / 2:=Int.tdiv_eq_ediv_of_nonneg id.2.2.1
  rw [qmg]; simp (disch:=omega) only [wk,bit,nI,qfg,hid,e]
theorem qcx {a:Cell}(hid:idOk a.1 a.2.1 a.2.2=true)(hv:1≤a.2.1)(k:Nat)(hk:2000000≤k):go (k+4) impl_ParentOf [.agg [.int .i64 a.1,.int .i64 a.2.1,.int .i64 a.2.2]]=some [.agg [.int .i64 (par a).1,.int .i64 (par a).2.1,.int .i64 (par a).2.2],.bool true]:=by
  have id:=qpa.1 hid
  have hp:pow2 a.2.1≤16:=by
    rcases lev (qpe.2 id.2.1) with e | e | e | e | e<;>rw [e]<;>decide
  have e:Int.tdiv a.2.2 2=a.2.2 / 2:=Int.tdiv_eq_ediv_of_nonneg id.2.2.1
  rw [qjx]; simp (disch:=omega) only [wk,bit,nI,qcl,hid,e]
theorem qgj (k:Nat)(hk:2000000≤k)(r:Int)(z:Bool)(l:List Cell)(h:qu6 r 0 l=true)(i:Nat)(hi:i+1<l.length)(hv:1≤qsj l i):
    go (k+4) spec_l06Merge [.agg [.int .i64 r,.arr false z (.r3 l)],.int .i64 (i:Int)]=some [.agg [.int .i64 r,.arr true false (.r3 (qu2 l i))]]:=by
  rw [qm6]
  have L:=qvb h
  have eP:=qfp ((qva _ _ _ h).2.2.2.1 _ (show i<l.length by omega)).2.2 hv k (by omega)
  have m1:(l.take i).length=i:=by rw [List.length_take]; omega
  have m2: ∀ p:Cell,(l.take i++[p]).length=i+1:=fun p=>by rw [List.length_append,m1]; rfl
  have m3: ∀ p:Cell,(l.take i++[p]++l.drop (i+2)).length=l.length - 1:=fun p=>by rw [List.length_append,m2,List.length_drop]; omega
  simp (disch:=omega) only [wk,bit,nI,eP,ton0,Nat.sub_zero,Nat.zero_add,List.drop_zero,q1x,m1,m2,m3]
  rw [List.append_assoc]; rfl
theorem qgn (k:Nat)(hk:2000000≤k)(r:Int)(s:S3)(b:List Int)(U:StU r s b)(i:Nat)(hi:i+1<s.1.length)(hv:1≤qsj s.1 i):
    go (k+5) spec_l08Merge [.agg [.int .i64 (r),.arr false (false) (.r3 (s.1)),.arr false (false) (.ints .i64 (s.2.1)),.arr false (false) (.ints .i64 (s.2.2)),.arr false (false) (.ints .i64 (b))],.int .i64 (i:Int)]=some [.agg [.int .i64 (r),.arr true (false) (.r3 ((cmS s i).1)),.arr true (false) (.ints .i64 ((cmS s i).2.1)),.arr true (false) (.ints .i64 ((cmS s i).2.2)),.arr true (false) (.ints .i64 (b))]]:=by
  obtain ⟨l,m,t⟩:=s
  simp only at hi hv ⊢
  rw [qnb]
  have L:=U.len; have ml:m.length=l.length:=U.ml; have tl:t.length=l.length:=U.tl; have bl:=U.bl; have rr:=U.rr
  have a:0≤m.getD i 0∧m.getD i 0≤10000000∧0≤t.getD i 0∧t.getD i 0≤1000*m.getD i 0:=U.at i
  have a' :0≤m.getD (i+1) 0∧m.getD (i+1) 0≤10000000∧0≤t.getD (i+1) 0∧t.getD (i+1) 0≤1000*m.getD (i+1) 0:=U.at (i+1)
  simp only at L
  have eM:=qgj k (by omega) r false l U.mesh i hi hv
  have m1:(m.take i).length=i:=by rw [List.length_take]; omega
  have t1:(t.take i).length=i:=by rw [List.length_take]; omega
  have m2: ∀ p:Int,(m.take i++[p]).length=i+1:=fun p=>by rw [List.length_append,m1]; rfl
  have t2: ∀ p:Int,(t.take i++[p]).length=i+1:=fun p=>by rw [List.length_append,t1]; rfl
  have m3:(m.take i++[m.getD i 0+m.getD (i+1) 0]++m.drop (i+2)).length+1=l.length:=by rw [List.length_append,m2,List.length_drop]; omega
  have t3:(t.take i++[t.getD i 0+t.getD (i+1) 0]++t.drop (i+2)).length+1=l.length:=by rw [List.length_append,t2,List.length_drop]; omega
  simp (disch:=omega) only [wk,bit,nI,eM,ton0,Nat.sub_zero,Nat.zero_add,List.drop_zero,q1x,m1,m2,t1,t2]
  rw [List.append_assoc,List.append_assoc]
  rfl
theorem qcv (k:Nat)(hk:2000000≤k)(r:Int)(l:List Cell)(h:qu6 r 0 l=true)(i:Nat)(hi:i+1<l.length)(hv:1≤qsj l i):
    go (k+5) impl_Mesh_coarsen [.ptr true [.int .i64 r,.arr true false (.r3 l)],.int .i64 (i:Int)]=some [.ptr true [.int .i64 r,.arr true false (.r3 (qu2 l i))]]:=by
  rw [qjp]
  have L:=qvb h
  have eP:=qcx ((qva _ _ _ h).2.2.2.1 _ (show i<l.length by omega)).2.2 hv k (by omega)
  have eR:=qey (k+3) false false l [par (l.getD i zz3)] (i:Int) ((i+2:Nat):Int) (by omega) (by omega) (by omega) (by simp) (by simp<;>omega) (by omega) (by simp)
  rw [Int.toNat_natCast,Int.toNat_natCast] at eR
  simp (disch:=omega) only [wk,bit,nI,eP,eR]
  rw [List.append_assoc]; rfl
theorem qdl (k:Nat)(hk:2000000≤k)(r:Int)(s:S3)(b:List Int)(U:StU r s b)(i:Nat)(hi:i+1<s.1.length)(hv:1≤qsj s.1 i):
    go (k+6) impl_State_coarsen [.ptr true [.int .i64 (r),.arr true (false) (.r3 (s.1)),.arr true (false) (.ints .i64 (s.2.1)),.arr true (false) (.ints .i64 (s.2.2)),.arr true (false) (.ints .i64 (b))],.int .i64 (i:Int)]=some [.ptr true [.int .i64 (r),.arr true (false) (.r3 ((cmS s i).1)),.arr true (false) (.ints .i64 ((cmS s i).2.1)),.arr true (false) (.ints .i64 ((cmS s i).2.2)),.arr true (false) (.ints .i64 (b))]]:=by
  obtain ⟨l,m,t⟩:=s
  simp only at hi hv ⊢
  rw [qkc]
  have L:=U.len; have ml:m.length=l.length:=U.ml; have tl:t.length=l.length:=U.tl; have bl:=U.bl; have rr:=U.rr
  have a:0≤m.getD i 0∧m.getD i 0≤10000000∧0≤t.getD i 0∧t.getD i 0≤1000*m.getD i 0:=U.at i
  have a' :0≤m.getD (i+1) 0∧m.getD (i+1) 0≤10000000∧0≤t.getD (i+1) 0∧t.getD (i+1) 0≤1000*m.getD (i+1) 0:=U.at (i+1)
  simp only at L
  have eM:=qcv k (by omega) r l U.mesh i hi hv
  have e1:=qez (k+4) false false m [m.getD i 0+m.getD (i+1) 0] (i:Int) ((i+2:Nat):Int) (by omega) (by omega) (by omega) (by simp) (by simp<;>omega) (by omega) (by simp)
  have e2:=qez (k+4) false false t [t.getD i 0+t.getD (i+1) 0] (i:Int) ((i+2:Nat):Int) (by omega) (by omega) (by omega) (by simp) (by simp<;>omega) (by omega) (by simp)
  rw [Int.toNat_natCast,Int.toNat_natCast] at e1 e2
  simp (disch:=omega) only [wk,bit,nI,eM,e1,e2,qwt,qwu,qwv]
  rw [List.append_assoc,List.append_assoc]
  rfl
end Go.Proofs.YtjfjniebmdafeaaGreatDoor
end
section
namespace Go.Proofs.YtjfjniebmdafeaaGreatDoor
open Go.Ev
set_option maxRecDepth 20000
theorem qfj {a b:Cell}(ha:idOk a.1 a.2.1 a.2.2=true)(hb:idOk b.1 b.2.1 b.2.2=true)(k:Nat)(hk:2000000≤k):go (k+3) spec_IsSibling [.agg [.int .i64 a.1,.int .i64 a.2.1,.int .i64 a.2.2],.agg [.int .i64 b.1,.int .i64 b.2.1,.int .i64 b.2.2]]=some [.bool (sib a b)]:=by
  have ia:=qpa.1 ha; have ib:=qpa.1 hb
  have pa:pow2 a.2.1≤16:=by
    rcases lev (qpe.2 ia.2.1) with e | e | e | e | e<;>rw [e]<;>decide
  have ea:Int.tmod a.2.2 2=a.2.2 % 2:=Int.tmod_eq_emod_of_nonneg ia.2.2.1
  have da:Int.tdiv a.2.2 2=a.2.2 / 2:=Int.tdiv_eq_ediv_of_nonneg ia.2.2.1
  have db:Int.tdiv b.2.2 2=b.2.2 / 2:=Int.tdiv_eq_ediv_of_nonneg ib.2.2.1
  have pb:pow2 b.2.1≤16:=by
    rcases lev (qpe.2 ib.2.1) with e | e | e | e | e<;>rw [e]<;>decide
  rw [qma]
  simp (disch:=omega) only [wk,bit,nI,qfg,ha,hb,ea]
  unfold sib
  rw [ha,hb]
  by_cases h1:a.1=b.1
  · by_cases h2:a.2.1=b.2.1
    · by_cases h3:a.2.2 % 2=0
      · simp (disch:=omega) only [wk,bit,nI]
      · simp (disch:=omega) only [wk,bit,nI]
    · simp (disch:=omega) only [wk,bit,nI]
  · simp (disch:=omega) only [wk,bit,nI]
theorem qcp {a b:Cell}(ha:idOk a.1 a.2.1 a.2.2=true)(hb:idOk b.1 b.2.1 b.2.2=true)(k:Nat)(hk:2000000≤k):go (k+5) impl_IsSibling [.agg [.int .i64 a.1,.int .i64 a.2.1,.int .i64 a.2.2],.agg [.int .i64 b.1,.int .i64 b.2.1,.int .i64 b.2.2]]=some [.bool (sib a b)]:=by
  have ia:=qpa.1 ha; have ib:=qpa.1 hb
  have pa:pow2 a.2.1≤16:=by
    rcases lev (qpe.2 ia.2.1) with e | e | e | e | e<;>rw [e]<;>decide
  have ea:Int.tmod a.2.2 2=a.2.2 % 2:=Int.tmod_eq_emod_of_nonneg ia.2.2.1
  have da:Int.tdiv a.2.2 2=a.2.2 / 2:=Int.tdiv_eq_ediv_of_nonneg ia.2.2.1
  have db:Int.tdiv b.2.2 2=b.2.2 / 2:=Int.tdiv_eq_ediv_of_nonneg ib.2.2.1
  have pb:pow2 b.2.1≤16:=by
    rcases lev (qpe.2 ib.2.1) with e | e | e | e | e<;>rw [e]<;>decide
  rw [qjh,qjx,qjx]
  by_cases z1:a.2.1=0
  · have sf:sib a b=false:=by
      rw [← Bool.not_eq_true]; intro hs; have:=q0c hs; omega
    rw [sf]
    by_cases z2:b.2.1=0
    · simp (disch:=omega) only [wk,bit,nI,qcl,ha,hb]
    · simp (disch:=omega) only [wk,bit,nI,qcl,ha,hb]
  · by_cases z2:b.2.1=0
    · have sf:sib a b=false:=by
        rw [← Bool.not_eq_true]; intro hs
        simp only [sib,Bool.and_eq_true,decide_eq_true_eq] at hs
        omega
      rw [sf]
      simp (disch:=omega) only [wk,bit,nI,qcl,ha,hb]
    · unfold sib
      rw [ha,hb]
      simp (disch:=omega) only [wk,bit,nI,qcl,ha,hb,ea,da,db]
      by_cases h1:a.1=b.1
      · by_cases h2:a.2.1=b.2.1
        · by_cases h3:a.2.2 % 2=0
          · by_cases h5:b.2.2=a.2.2+1
            · simp (disch:=omega) only [wk,bit,nI]
            · by_cases h6:a.2.2 / 2=b.2.2 / 2
              · simp (disch:=omega) only [wk,bit,nI]
              · simp (disch:=omega) only [wk,bit,nI]
          · by_cases h6:a.2.2 / 2=b.2.2 / 2
            · simp (disch:=omega) only [wk,bit,nI]
            · simp (disch:=omega) only [wk,bit,nI]
        · simp (disch:=omega) only [wk,bit,nI]
      · simp (disch:=omega) only [wk,bit,nI]
theorem qgi (k:Nat)(hk:2000000≤k)(r:Int)(z:Bool)(l:List Cell)(h:qu6 r 0 l=true)(i:Nat)(hi:i+1<l.length):
    go (k+4) spec_l06May [.agg [.int .i64 r,.arr false z (.r3 l)],.int .i64 (i:Int)]=some [.bool (mayC l i)]:=by
  rw [qm5]
  have L:=qvb h
  have id:=fun j (hj:j<l.length)=>((qva _ _ _ h).2.2.2.1 _ hj).2.2
  have eS:=qfj (id i (by omega)) (id (i+1) hi) k (by omega)
  unfold mayC
  simp (disch:=omega) only [wk,bit,nI,eS]
  cases sib (l.getD i zz3) (l.getD (i+1) zz3)
  · simp (disch:=omega) only [wk,bit,nI]
  by_cases h0:i=0
  · subst h0
    by_cases h1:l.length≤2
    · simp (disch:=omega) only [wk,bit,nI]
    · simp only [qsj]
      simp (disch:=omega) only [wk,bit,nI,Nat.zero_add]
  · by_cases h1:l.length≤i+2
    · simp only [qsj]
      by_cases h2:(l.getD (i - 1) zz3).2.1≤(l.getD i zz3).2.1
      · simp (disch:=omega) only [wk,bit,nI,qhd]
      · simp (disch:=omega) only [wk,bit,nI,qhd]
    · simp only [qsj]
      by_cases h2:(l.getD (i - 1) zz3).2.1≤(l.getD i zz3).2.1
      · simp (disch:=omega) only [wk,bit,nI,qhd]
      · simp (disch:=omega) only [wk,bit,nI,qhd]
theorem qd7 (k:Nat)(hk:2000000≤k)(r:Int)(z:Bool)(l:List Cell)(h:qu6 r 0 l=true)(i:Nat)(hi:i+1<l.length):
    go (k+6) impl_Mesh_mayCoarsen [.agg [.int .i64 r,.arr false z (.r3 l)],.int .i64 (i:Int)]=some [.bool (mayC l i)]:=by
  rw [qjs]
  have L:=qvb h
  have id:=fun j (hj:j<l.length)=>((qva _ _ _ h).2.2.2.1 _ hj).2.2
  have eS:=qcp (id i (by omega)) (id (i+1) hi) k (by omega)
  have b1:inR (i:Int) 0 ((l.length:Int) - 1)=true:=qpe.2 (by omega)
  have b2:inR ((i+1:Nat):Int) 0 ((l.length:Int) - 1)=true:=qpe.2 (by omega)
  unfold mayC
  simp (disch:=omega) only [wk,bit,nI,qdw,b1,b2,eS]
  cases sib (l.getD i zz3) (l.getD (i+1) zz3)
  · simp (disch:=omega) only [wk,bit,nI]
  by_cases h0:i=0
  · subst h0
    have b3:inR (((0:Nat):Int) - 1) 0 ((l.length:Int) - 1)=false:=by rw [← Bool.not_eq_true,qpe]; omega
    by_cases h1:l.length≤2
    · have b4:inR ((0+2:Nat):Int) 0 ((l.length:Int) - 1)=false:=by rw [← Bool.not_eq_true,qpe]; omega
      simp (disch:=omega) only [wk,bit,nI,qdw,b3,b4]
    · have b4:inR ((0+2:Nat):Int) 0 ((l.length:Int) - 1)=true:=qpe.2 (by omega)
      simp only [qsj]
      by_cases h3:(l.getD (0+2) zz3).2.1≤(l.getD 0 zz3).2.1
      · simp (disch:=omega) only [wk,bit,nI,qdw,b3,b4]
      · simp (disch:=omega) only [wk,bit,nI,qdw,b3,b4]
  · have ci:(i:Int) - 1=((i - 1:Nat):Int):=by omega
    have b3:inR (((i - 1:Nat):Nat):Int) 0 ((l.length:Int) - 1)=true:=qpe.2 (by omega)
    simp only [qsj]
    by_cases h2:(l.getD (i - 1) zz3).2.1≤(l.getD i zz3).2.1
    · by_cases h1:l.length≤i+2
      · have b4:inR ((i+2:Nat):Int) 0 ((l.length:Int) - 1)=false:=by rw [← Bool.not_eq_true,qpe]; omega
        simp (disch:=omega) only [wk,bit,nI,ci,qdw,b3,b4]
      · have b4:inR ((i+2:Nat):Int) 0 ((l.length:Int) - 1)=true:=qpe.2 (by omega)
        by_cases h3:(l.getD (i+2) zz3).2.1≤(l.getD i zz3).2.1
        · simp (disch:=omega) only [wk,bit,nI,ci,qdw,b3,b4]
        · simp (disch:=omega) only [wk,bit,nI,ci,qdw,b3,b4]
    · simp (disch:=omega) only [wk,bit,nI,ci,qdw,b3]
def toR (l:List Cell):Int:=if unb l<0 then unb l else ((qh9 l (unb l).toNat:Nat):Int)
theorem qen (k:Nat)(hk:2000000≤k)(r:Int)(z:Bool)(l:List Cell)(h:qu6 r 0 l=true):go (k+3) impl_Mesh_toRefine [.agg [.int .i64 r,.arr false z (.r3 l)]]=some [.int .i64 (toR l)]:=by
  rw [qjv]
  have L:=qvb h
  have mv:=qvc _ _ _ h
  rw [qeo k (by omega) _ _ _ (by omega) mv]
  unfold toR
  by_cases g:unb l<0
  · rw [if_pos g]; simp (disch:=omega) only [wk,bit,nI]
  · rw [if_neg g]
    obtain ⟨j,e,h1,h2⟩:=q2h (by omega:0≤unb l)
    rw [e,Int.toNat_natCast]
    unfold qh9
    by_cases g2:qsj l (j+1)<qsj l j
    · rw [if_pos g2]; simp only [qsj] at g2; simp (disch:=omega) only [wk,bit,nI]
    · rw [if_neg g2]; simp only [qsj] at g2; simp (disch:=omega) only [wk,bit,nI]
theorem qtl (k:Nat)(hk:2000000≤k)(fu:List (Nat×Nat))(w0:Int)(v1:Bool)(w1:List Cell)(v2:Bool)(w2:List Int)(v3:Bool)(w3:List Int)(v4:Bool)(w4:List Int)(r:Int)(b:List Int): ∀ (N n:Nat)(s:S3),N<n→StU r s b→129≤N+s.1.length→
    lp (k+3) impl_State_balance [.ptr true [.int .i64 w0,.arr true v1 (.r3 w1),.arr true v2 (.ints .i64 w2),.arr true v3 (.ints .i64 w3),.arr true v4 (.ints .i64 w4)]] fu 1 n (qyk (toR s.1) false s.1 false s.2.1 false s.2.2 false b r)=some [.ptr true [.int .i64 (r),.arr true (false) (.r3 ((lvS N s).1)),.arr true (false) (.ints .i64 ((lvS N s).2.1)),.arr true (false) (.ints .i64 ((lvS N s).2.2)),.arr true (false) (.ints .i64 (b))]]
  | N,0,s,hn,U,hN=>by omega
  | 0,n+1,s,hn,U,hN=>by have:=U.len; omega
  | N+1,n+1,s,hn,U,hN=>by
    rw [qqz]
    have L:=U.len
    unfold lvS toR
    by_cases g:unb s.1<0
    · rw [if_pos g,if_pos g]; simp (disch:=omega) only [wk,bit,nI]
    · rw [if_neg g,if_neg g]
      obtain ⟨j,e,h1,h2⟩:=q2h (by omega:0≤unb s.1)
      have c:=qia U.mesh h1 h2
      rw [e,Int.toNat_natCast]
      have U' :=rf_U U c.1 c.2
      have IH:=qtl k hk fu w0 v1 w1 v2 w2 v3 w3 v4 w4 r b N n _ (by omega) U' (by show 129≤N+(q0q s.1 _).length; rw [q0r c.1]; omega)
      have eR:=qee k (by omega) r s b U (qh9 s.1 j) c.1 c.2
      have eT:=qen k (by omega) r false _ U'.mesh
      simp (disch:=omega) only [wk,bit,nI,eR,qwt,qwu,qwv,q2d,q2e,eT,IH]
theorem qdj (k:Nat)(hk:2000000≤k)(r:Int)(s:S3)(b:List Int)(U:StU r s b):go (k+4) impl_State_balance [.ptr true [.int .i64 (r),.arr true (false) (.r3 (s.1)),.arr true (false) (.ints .i64 (s.2.1)),.arr true (false) (.ints .i64 (s.2.2)),.arr true (false) (.ints .i64 (b))]]=some [.ptr true [.int .i64 (r),.arr true (false) (.r3 ((lvS 128 s).1)),.arr true (false) (.ints .i64 ((lvS 128 s).2.1)),.arr true (false) (.ints .i64 ((lvS 128 s).2.2)),.arr true (false) (.ints .i64 (b))]]:=by
  rw [qka]
  have eT:=qen k (by omega) r false _ U.mesh
  have L:=U.len
  simp (disch:=omega) only [wk,bit,nI,eT]
  exact qtl k hk [] _ _ _ _ _ _ _ _ _ r b 128 _ s (by omega) U (by omega)
theorem qup (k:Nat)(hk:2000000≤k)(fu:List (Nat×Nat))(z10:Bool)(l11:List Cell)(z12:Bool)(l13:List Int)(z14:Bool)(l15:List Int)(z16:Bool)(l17:List Int)(x18:Int)(r:Int)(b:List Int): ∀ (N n:Nat)(s:S3),N<n→StU r s b→129≤N+s.1.length→
    lp (k+5) spec_l08Level [] fu 2 (n) (qzn (unb s.1) false s.1 false s.2.1 false s.2.2 false b r z10 l11 z12 l13 z14 l15 z16 l17 x18)=some [.agg [.int .i64 (r),.arr true (false) (.r3 ((lvS N s).1)),.arr true (false) (.ints .i64 ((lvS N s).2.1)),.arr true (false) (.ints .i64 ((lvS N s).2.2)),.arr true (false) (.ints .i64 (b))]]
  | N,0,s,hn,U,hN=>by omega
  | 0,n+1,s,hn,U,hN=>by have:=U.len; omega
  | N+1,n+1,s,hn,U,hN=>by
    rw [qr2]
    have L:=U.len
    unfold lvS
    by_cases g:unb s.1<0
    · rw [if_pos g]; simp (disch:=omega) only [wk,bit,nI]
    · rw [if_neg g]
      obtain ⟨j,e,h1,h2⟩:=q2h (by omega:0≤unb s.1)
      have c:=qia U.mesh h1 h2
      rw [e,Int.toNat_natCast]
      have U' :=rf_U U c.1 c.2
      have L' :=U'.len
      have IH:=qup k hk fu z10 l11 z12 l13 z14 l15 z16 l17 x18 r b N n _ (by omega) U' (by show 129≤N+(q0q s.1 _).length; rw [q0r c.1]; omega)
      have eC:=qgd (k+4) (by omega) r false s.1 j (by omega) h1
      have eR:=qgo k (by omega) r s b U (qh9 s.1 j) c.1 c.2
      have eT:=qgf (k+4) (by omega) r false (rfS s (qh9 s.1 j)).1 (by omega) (qvc _ _ _ U'.mesh)
      simp (disch:=omega) only [wk,bit,nI,eC,eR,eT,IH]
theorem qg5 (k:Nat)(hk:2000000≤k)(r:Int)(s:S3)(b:List Int)(U:StU r s b):go (k+6) spec_l08Level [.agg [.int .i64 (r),.arr true (false) (.r3 (s.1)),.arr true (false) (.ints .i64 (s.2.1)),.arr true (false) (.ints .i64 (s.2.2)),.arr true (false) (.ints .i64 (b))]]=some [.agg [.int .i64 (r),.arr true (false) (.r3 ((lvS 128 s).1)),.arr true (false) (.ints .i64 ((lvS 128 s).2.1)),.arr true (false) (.ints .i64 ((lvS 128 s).2.2)),.arr true (false) (.ints .i64 (b))]]:=by
  rw [qna]
  have L:=U.len
  have eT:=qgf (k+4) (by omega) r false s.1 (by omega) (qvc _ _ _ U.mesh)
  simp (disch:=omega) only [wk,bit,nI,eT]
  exact qup k hk [] _ _ _ _ _ _ _ _ _ r b 128 _ s (by omega) U (by omega)
end Go.Proofs.YtjfjniebmdafeaaGreatDoor
end
section
namespace Go.Proofs.YtjfjniebmdafeaaGreatDoor
open Go.Ev
set_option maxRecDepth 20000
theorem len2 (x y:Int):List.length [x,y]=2:=Eq.trans rfl rfl
theorem gd0 (x y:Int):List.getD [x,y] 0 0=x:=Eq.trans rfl rfl
theorem gd1 (x y:Int):List.getD [x,y] 1 0=y:=Eq.trans rfl rfl
theorem len1 (x:Int):List.length [x]=1:=Eq.trans rfl rfl
theorem len0:List.length ([]:List Int)=0:=Eq.trans rfl rfl
theorem gdo (x:Int):List.getD [x] 0 0=x:=Eq.trans rfl rfl
theorem ton1:Int.toNat 1=1:=Eq.trans rfl rfl
def nb (l:List Cell)(i:Nat):List Int:=if 0<i then (if i+1<l.length then [((i - 1:Nat):Int),((i+1:Nat):Int)] else [((i - 1:Nat):Int)]) else (if i+1<l.length then [((i+1:Nat):Int)] else [])
theorem qd9 (k:Nat)(hk:2000000≤k)(r:Int)(z:Bool)(l:List Cell)(h:qu6 r 0 l=true)(i:Nat)(hi:i<l.length):
    go (k+3) impl_Mesh_neighbours [.agg [.int .i64 r,.arr false z (.r3 l)],.int .i64 (i:Int)]=some [.arr true false (.ints .i64 (nb l i))]:=by
  rw [qjt]
  have L:=qvb h
  have w1:IntKind.wrap .i64 ((i:Int) - 1)=(i:Int) - 1:=q26 (by omega) (by omega)
  have w2:IntKind.wrap .i64 ((i:Int)+1)=((i+1:Nat):Int):=by rw [q26 (by omega) (by omega)]; omega
  have w3:IntKind.wrap .i64 ((0:Int)+1)=1:=by rw [q26 (by omega) (by omega)]; rfl
  have w4:IntKind.wrap .i64 ((1:Int)+1)=2:=by rw [q26 (by omega) (by omega)]; rfl
  rw [w1,w2,len2]
  have n2:nI 2=2:=Eq.trans rfl rfl
  rw [n2]
  have la: ∀ x:Int,([]++[x]:List Int).length=1:=fun x=>rfl
  have lb: ∀ x y:Int,([x]++[y]:List Int).length=2:=fun x y=>rfl
  have f0:=qqs (k+2) (k+2 - 1) [] 2 0 z l r false [] false [(i:Int) - 1,((i+1:Nat):Int)]
  have f1:=fun x=>qqs (k+2) (k+2 - 2) [] 2 1 z l r false x false [(i:Int) - 1,((i+1:Nat):Int)]
  have f2:=fun x=>qqs (k+2) (k+2 - 3) [] 2 2 z l r false x false [(i:Int) - 1,((i+1:Nat):Int)]
  rw [show k+2 - 1+1=k+2 by omega] at f0
  rw [show k+2 - 2+1=k+2 - 1 by omega] at f1
  rw [show k+2 - 3+1=k+2 - 2 by omega] at f2
  simp (disch:=omega) only [wk,bit,nI,len2] at f2
  unfold nb
  by_cases h0:0<i
  · have b1:inR ((i:Int) - 1) 0 ((l.length:Int) - 1)=true:=qpe.2 (by omega)
    have ci:(i:Int) - 1=((i - 1:Nat):Int):=by omega
    rw [if_pos h0]
    by_cases h1:i+1<l.length
    · have b2:inR ((i+1:Nat):Int) 0 ((l.length:Int) - 1)=true:=qpe.2 (by omega)
      rw [if_pos h1]
      simp (disch:=omega) only [wk,bit,nI,len2,ton1,gd1,qdw,b2,w4,lb,f2] at f1
      simp (disch:=omega) only [wk,bit,nI,len2,ton0,gd0,qdw,b1,w3,len1,lb,f1] at f0
      rw [← ci]; exact f0
    · have b2:inR ((i+1:Nat):Int) 0 ((l.length:Int) - 1)=false:=by rw [← Bool.not_eq_true,qpe]; omega
      rw [if_neg h1]
      simp (disch:=omega) only [wk,bit,nI,len2,ton1,gd1,qdw,b2,w4,lb,f2] at f1
      simp (disch:=omega) only [wk,bit,nI,len2,ton0,gd0,qdw,b1,w3,len1,lb,f1] at f0
      rw [← ci]; exact f0
  · have b1:inR ((i:Int) - 1) 0 ((l.length:Int) - 1)=false:=by rw [← Bool.not_eq_true,qpe]; omega
    rw [if_neg h0]
    by_cases h1:i+1<l.length
    · have b2:inR ((i+1:Nat):Int) 0 ((l.length:Int) - 1)=true:=qpe.2 (by omega)
      rw [if_pos h1]
      simp (disch:=omega) only [wk,bit,nI,len2,ton1,gd1,qdw,b2,w4,la,lb,f2] at f1
      have f1' :=f1 []
      simp (disch:=omega) only [wk,bit,nI,len1] at f1'
      simp (disch:=omega) only [wk,bit,nI,len2,ton0,gd0,qdw,b1,w3,la,f1'] at f0
      exact f0
    · have b2:inR ((i+1:Nat):Int) 0 ((l.length:Int) - 1)=false:=by rw [← Bool.not_eq_true,qpe]; omega
      rw [if_neg h1]
      simp (disch:=omega) only [wk,bit,nI,len2,ton1,gd1,qdw,b2,w4,lb,f2] at f1
      simp (disch:=omega) only [wk,bit,nI,len2,ton0,gd0,qdw,b1,w3,la,f1] at f0
      exact f0
def jmp (l:List Cell)(m b:List Int)(i:Nat):Int:=max (if 0<i then gap (surf l m b i) (surf l m b (i - 1)) else 0) (if i+1<l.length then gap (surf l m b i) (surf l m b (i+1)) else 0)
theorem qot (a b:Int):0≤gap a b:=by unfold gap; split<;>omega
theorem qos (a b:Int):max (0 - (a - b)) (a - b)=gap a b:=by unfold gap; split<;>omega
theorem qgw (k:Nat)(hk:2000000≤k)(r:Int)(z1 z2 z3 z4:Bool)(l:List Cell)(m t b:List Int)(F:StF r l m t b)(i:Nat)(hi:i<l.length):
    go (k+2) spec_l16Jump [.agg [.int .i64 (r),.arr false (z1) (.r3 (l)),.arr false (z2) (.ints .i64 (m)),.arr false (z3) (.ints .i64 (t)),.arr false (z4) (.ints .i64 (b))],.int .i64 (i:Int)]=some [.int .i64 (jmp l m b i)]:=by
  rw [qno]
  have L:=F.len; have ml:=F.ml
  have s0:=q1l F i; have s1:=q1l F (i - 1); have s2:=q1l F (i+1)
  have g1:=qot (surf l m b i) (surf l m b (i - 1)); have g2:=qot (surf l m b i) (surf l m b (i+1))
  have e0:=qgs k (by omega) r z1 z2 z3 z4 l m t b F i hi
  unfold jmp
  by_cases h0:0<i
  · have ci:(i:Int) - 1=((i - 1:Nat):Int):=by omega
    have e1:=qgs k (by omega) r z1 z2 z3 z4 l m t b F (i - 1) (by omega)
    rw [if_pos h0]
    by_cases h1:i+1<l.length
    · have e2:=qgs k (by omega) r z1 z2 z3 z4 l m t b F (i+1) (by omega)
      rw [if_pos h1]
      simp (disch:=omega) only [wk,bit,nI,e0,e1,e2,ci,qgq]
      rw [show ∀ x y:Int,max x y=max y x from fun x y=>by omega]
    · rw [if_neg h1]
      simp (disch:=omega) only [wk,bit,nI,e0,e1,ci,qgq]
      rw [show max (gap (surf l m b i) (surf l m b (i - 1))) 0=gap (surf l m b i) (surf l m b (i - 1)) by omega]
  · rw [if_neg h0]
    by_cases h1:i+1<l.length
    · have e2:=qgs k (by omega) r z1 z2 z3 z4 l m t b F (i+1) (by omega)
      rw [if_pos h1]
      simp (disch:=omega) only [wk,bit,nI,e0,e2,qgq]
      rw [show ∀ x y:Int,max x y=max y x from fun x y=>by omega]
    · rw [if_neg h1]
      simp (disch:=omega) only [wk,bit,nI]
      rfl
set_option maxHeartbeats 4000000 in
theorem qd4 (k:Nat)(hk:2000000≤k)(r:Int)(z1 z2 z3 z4:Bool)(l:List Cell)(m t b:List Int)(F:StF r l m t b)(i:Nat)(hi:i<l.length):
    go (k+4) impl_State_jump [.agg [.int .i64 (r),.arr false (z1) (.r3 (l)),.arr false (z2) (.ints .i64 (m)),.arr false (z3) (.ints .i64 (t)),.arr false (z4) (.ints .i64 (b))],.int .i64 (i:Int)]=some [.int .i64 (jmp l m b i)]:=by
  rw [qkh]
  have L:=F.len; have ml:=F.ml
  have s0:=q1l F i; have s1:=q1l F (i - 1); have s2:=q1l F (i+1)
  have g1:=qot (surf l m b i) (surf l m b (i - 1)); have g2:=qot (surf l m b i) (surf l m b (i+1))
  have e0:=qem (k+2) (by omega) r z1 z2 z3 z4 l m t b F i hi
  have eN:=qd9 k (by omega) r z1 l F.mesh i hi
  have w3:IntKind.wrap .i64 ((0:Int)+1)=1:=by rw [q26 (by omega) (by omega)]; rfl
  have w4:IntKind.wrap .i64 ((1:Int)+1)=2:=by rw [q26 (by omega) (by omega)]; rfl
  have n2:((2:Nat):Int)=2:=Eq.trans rfl rfl
  have n1:((1:Nat):Int)=1:=Eq.trans rfl rfl
  have n0:((0:Nat):Int)=0:=Eq.trans rfl rfl
  unfold jmp
  simp (disch:=omega) only [wk,bit,nI,eN]
  unfold nb
  by_cases h0:0<i
  · have e1:=qem (k+2) (by omega) r z1 z2 z3 z4 l m t b F (i - 1) (by omega)
    rw [if_pos h0,if_pos h0]
    by_cases h1:i+1<l.length
    · have e2:=qem (k+2) (by omega) r z1 z2 z3 z4 l m t b F (i+1) (by omega)
      rw [if_pos h1,if_pos h1]
      have f0:=fun y=>qq2 (k+3) (k+3 - 1) [] (i:Int) y 2 0 z1 l z2 m z3 t z4 b r false [((i - 1:Nat):Int),((i+1:Nat):Int)]
      have f1:=fun y=>qq2 (k+3) (k+3 - 2) [] (i:Int) y 2 1 z1 l z2 m z3 t z4 b r false [((i - 1:Nat):Int),((i+1:Nat):Int)]
      have f2:=fun y=>qq2 (k+3) (k+3 - 3) [] (i:Int) y 2 2 z1 l z2 m z3 t z4 b r false [((i - 1:Nat):Int),((i+1:Nat):Int)]
      rw [show k+3 - 1+1=k+3 by omega] at f0
      rw [show k+3 - 2+1=k+3 - 1 by omega] at f1
      rw [show k+3 - 3+1=k+3 - 2 by omega] at f2
      simp (disch:=omega) only [wk,bit,nI,len2] at f2
      simp (disch:=omega) only [wk,bit,nI,len2,ton1,gd1,e0,e2,qdf,qos,w4,f2] at f1
      simp (disch:=omega) only [wk,bit,nI,len2,ton0,gd0,e0,e1,qdf,qos,w3,f1] at f0
      rw [len2,n2,f0,show ∀ x y:Int,0≤x→max y (max x 0)=max x y from fun x y h=>by omega]
      exact g1
    · rw [if_neg h1,if_neg h1]
      have f0:=fun y=>qq2 (k+3) (k+3 - 1) [] (i:Int) y 1 0 z1 l z2 m z3 t z4 b r false [((i - 1:Nat):Int)]
      have f1:=fun y=>qq2 (k+3) (k+3 - 2) [] (i:Int) y 1 1 z1 l z2 m z3 t z4 b r false [((i - 1:Nat):Int)]
      rw [show k+3 - 1+1=k+3 by omega] at f0
      rw [show k+3 - 2+1=k+3 - 1 by omega] at f1
      simp (disch:=omega) only [wk,bit,nI,len1] at f1
      simp (disch:=omega) only [wk,bit,nI,len1,ton0,gdo,e0,e1,qdf,qos,w3,f1] at f0
      rw [len1,n1,f0]
  · rw [if_neg h0,if_neg h0]
    by_cases h1:i+1<l.length
    · have e2:=qem (k+2) (by omega) r z1 z2 z3 z4 l m t b F (i+1) (by omega)
      rw [if_pos h1,if_pos h1]
      have f0:=fun y=>qq2 (k+3) (k+3 - 1) [] (i:Int) y 1 0 z1 l z2 m z3 t z4 b r false [((i+1:Nat):Int)]
      have f1:=fun y=>qq2 (k+3) (k+3 - 2) [] (i:Int) y 1 1 z1 l z2 m z3 t z4 b r false [((i+1:Nat):Int)]
      rw [show k+3 - 1+1=k+3 by omega] at f0
      rw [show k+3 - 2+1=k+3 - 1 by omega] at f1
      simp (disch:=omega) only [wk,bit,nI,len1] at f1
      simp (disch:=omega) only [wk,bit,nI,len1,ton0,gdo,e0,e2,qdf,qos,w3,f1] at f0
      rw [len1,n1,f0,show ∀ x:Int,max x 0=max 0 x from fun x=>by omega]
    · rw [if_neg h1,if_neg h1]
      have f0:=fun y=>qq2 (k+3) (k+3 - 1) [] (i:Int) y 0 0 z1 l z2 m z3 t z4 b r false []
      rw [show k+3 - 1+1=k+3 by omega] at f0
      simp (disch:=omega) only [wk,bit,nI,len0] at f0
      rw [len0,n0,f0]
      rfl
def wsh (l:List Cell)(m b:List Int)(hi lo:Int)(i:Nat):Int:=if hi<jmp l m b i∧qsj l i<4 then 1 else if jmp l m b i<lo∧0<qsj l i then -1 else 0
theorem q1v (n:Nat)(g:Nat→Int):tab (n+1) g=tab n g++[g n]:=by
  unfold tab; rw [List.range_succ,List.map_append]; rfl
theorem qp5 {r:Int}{l:List Cell}{m t b:List Int}(F:StF r l m t b)(i:Nat):0≤jmp l m b i∧jmp l m b i≤161000000:=by
  have s0:=q1l F i; have s1:=q1l F (i - 1); have s2:=q1l F (i+1)
  unfold jmp gap
  by_cases h0:0<i
  · rw [if_pos h0]
    by_cases h1:i+1<l.length
    · rw [if_pos h1]; omega
    · rw [if_neg h1]; omega
  · rw [if_neg h0]
    by_cases h1:i+1<l.length
    · rw [if_pos h1]; omega
    · rw [if_neg h1]; omega
theorem qug (k:Nat)(hk:2000000≤k)(fu:List (Nat×Nat))(hi lo r:Int)(z1 z2 z3 z4:Bool)(l:List Cell)(m t b:List Int)(F:StF r l m t b): ∀ (N i:Nat),i≤l.length→l.length - i<N→
    lp (k+2) spec_l16Wishes [] fu 3 (N) (qzt hi lo (i:Int) z1 l z2 m z3 t z4 b r false (tab i (wsh l m b hi lo)))=some [.arr true false (.ints .i64 (tab l.length (wsh l m b hi lo)))]
  | 0,i,hl,hN=>by omega
  | N+1,i,hl,hN=>by
    rw [qr8]
    have L:=F.len; have ml:=F.ml
    by_cases g:i<l.length
    · have IH:=qug k hk fu hi lo r z1 z2 z3 z4 l m t b F N (i+1) (by omega) (by omega)
      have eJ:=qgw k (by omega) r z1 z2 z3 z4 l m t b F i g
      have la: ∀ x:Int,(tab i (wsh l m b hi lo)++[x]).length=i+1:=fun x=>by rw [List.length_append,q1r]; rfl
      rw [q1v] at IH
      have jb:=qp5 F i
      simp only [wsh,qsj] at IH
      by_cases h1:hi<jmp l m b i
      · by_cases h2:(l.getD i zz3).2.1<4
        · rw [if_pos ⟨h1,h2⟩] at IH; simp (disch:=omega) only [wk,bit,nI,eJ,la,IH]
        · rw [if_neg (fun h=>h2 h.2)] at IH
          by_cases h3:jmp l m b i<lo
          · have h4:0<(l.getD i zz3).2.1:=by omega
            rw [if_pos ⟨h3,h4⟩] at IH; simp (disch:=omega) only [wk,bit,nI,eJ,la,IH]
          · rw [if_neg (fun h=>h3 h.1)] at IH; simp (disch:=omega) only [wk,bit,nI,eJ,la,IH]
      · rw [if_neg (fun h=>h1 h.1)] at IH
        by_cases h3:jmp l m b i<lo
        · by_cases h4:0<(l.getD i zz3).2.1
          · rw [if_pos ⟨h3,h4⟩] at IH; simp (disch:=omega) only [wk,bit,nI,eJ,la,IH]
          · rw [if_neg (fun h=>h4 h.2)] at IH; simp (disch:=omega) only [wk,bit,nI,eJ,la,IH]
        · rw [if_neg (fun h=>h3 h.1)] at IH; simp (disch:=omega) only [wk,bit,nI,eJ,la,IH]
    · simp (disch:=omega) only [wk,bit,nI]
      rw [show i=l.length by omega]
theorem qtj (k:Nat)(hk:2000000≤k)(fu:List (Nat×Nat))(hi lo r:Int)(z1 z2 z3 z4:Bool)(l:List Cell)(m t b:List Int)(F:StF r l m t b): ∀ (N i:Nat),i≤l.length→l.length - i<N→
    lp (k+8) impl_Wishes [] fu 5 (N) (qyv hi lo (l.length:Int) (i:Int) z1 l z2 m z3 t z4 b r false (tab i (wsh l m b hi lo)))=some [.arr true false (.ints .i64 (tab l.length (wsh l m b hi lo)))]
  | 0,i,hl,hN=>by omega
  | N+1,i,hl,hN=>by
    rw [qra]
    have L:=F.len; have ml:=F.ml
    by_cases g:i<l.length
    · have IH:=qtj k hk fu hi lo r z1 z2 z3 z4 l m t b F N (i+1) (by omega) (by omega)
      have eJ:=qd4 (k+4) (by omega) r z1 z2 z3 z4 l m t b F i g
      have la: ∀ x:Int,(tab i (wsh l m b hi lo)++[x]).length=i+1:=fun x=>by rw [List.length_append,q1r]; rfl
      rw [q1v] at IH
      have jb:=qp5 F i
      simp only [wsh,qsj] at IH
      by_cases h1:hi<jmp l m b i
      · by_cases h2:(l.getD i zz3).2.1<4
        · rw [if_pos ⟨h1,h2⟩] at IH; simp (disch:=omega) only [wk,bit,nI,eJ,la,IH]
        · rw [if_neg (fun h=>h2 h.2)] at IH
          by_cases h3:jmp l m b i<lo
          · have h4:0<(l.getD i zz3).2.1:=by omega
            rw [if_pos ⟨h3,h4⟩] at IH; simp (disch:=omega) only [wk,bit,nI,eJ,la,IH]
          · rw [if_neg (fun h=>h3 h.1)] at IH; simp (disch:=omega) only [wk,bit,nI,eJ,la,IH]
      · rw [if_neg (fun h=>h1 h.1)] at IH
        by_cases h3:jmp l m b i<lo
        · by_cases h4:0<(l.getD i zz3).2.1
          · rw [if_pos ⟨h3,h4⟩] at IH; simp (disch:=omega) only [wk,bit,nI,eJ,la,IH]
          · rw [if_neg (fun h=>h4 h.2)] at IH; simp (disch:=omega) only [wk,bit,nI,eJ,la,IH]
        · rw [if_neg (fun h=>h3 h.1)] at IH; simp (disch:=omega) only [wk,bit,nI,eJ,la,IH]
    · simp (disch:=omega) only [wk,bit,nI]
      rw [show i=l.length by omega]
theorem qfy (k:Nat)(hk:2000000≤k)(hi lo r:Int)(z1 z2 z3 z4:Bool)(l:List Cell)(m t b:List Int)(F:StF r l m t b):
    go (k+3) spec_l16Wishes [.agg [.int .i64 (r),.arr false (z1) (.r3 (l)),.arr false (z2) (.ints .i64 (m)),.arr false (z3) (.ints .i64 (t)),.arr false (z4) (.ints .i64 (b))],.int .i64 hi,.int .i64 lo]=some [.arr true false (.ints .i64 (tab l.length (wsh l m b hi lo)))]:=by
  rw [qnp]
  have L:=F.len
  exact qug k hk [] hi lo r z1 z2 z3 z4 l m t b F _ 0 (by omega) (by omega)
theorem qdc (k:Nat)(hk:2000000≤k)(hi lo r:Int)(z1 z2 z3 z4:Bool)(l:List Cell)(m t b:List Int)(F:StF r l m t b):
    go (k+9) impl_Wishes [.agg [.int .i64 (r),.arr false (z1) (.r3 (l)),.arr false (z2) (.ints .i64 (m)),.arr false (z3) (.ints .i64 (t)),.arr false (z4) (.ints .i64 (b))],.int .i64 hi,.int .i64 lo]=some [.arr true false (.ints .i64 (tab l.length (wsh l m b hi lo)))]:=by
  rw [qkw]
  have L:=F.len; have ml:=F.ml; have bl:=F.bl; have rr:=F.rr
  have g:=stF.2 F
  simp (disch:=omega) only [wk,bit,nI,qc8,g]
  exact qtj k hk [] hi lo r z1 z2 z3 z4 l m t b F _ 0 (by omega) (by omega)
end Go.Proofs.YtjfjniebmdafeaaGreatDoor
end
section
namespace Go.Proofs.YtjfjniebmdafeaaGreatDoor
open Go.Ev
set_option maxRecDepth 20000
def qsx (x:Cell):List Cell→Nat→Int
  | [],_=> -1
  | y::r,i=>if y=x then (i:Int) else qsx x r (i+1)
def lof (l:List Cell)(x:Cell):Int:=qsx x l 0
theorem qt8 (k:Nat)(hk:2000000≤k)(fu:List (Nat×Nat))(r:Int)(z:Bool)(l:List Cell)(x:Cell)(hl:l.length≤1048576): ∀ (N i:Nat),i≤l.length→l.length - i<N→
    lp k spec_LeafOf [] fu 2 (N) (qzb (i:Int) z l r x.1 x.2.1 x.2.2)=some [.int .i64 (qsx x (l.drop i) i)]
  | 0,i,hi,hN=>by omega
  | N+1,i,hi,hN=>by
    rw [qrq]
    by_cases g:i<l.length
    · have IH:=qt8 k hk fu r z l x hl N (i+1) (by omega) (by omega)
      rw [qiz g zz3,qsx]
      by_cases h:l.getD i zz3=x
      · rw [if_pos h]; simp (disch:=omega) only [wk,bit,nI,h]
      · rw [if_neg h]
        have:(decide ((l.getD i zz3).1=x.1)&&(decide ((l.getD i zz3).2.1=x.2.1)&&decide ((l.getD i zz3).2.2=x.2.2)))=false:=by
          rw [← Bool.not_eq_true]
          intro e
          simp only [Bool.and_eq_true,decide_eq_true_eq] at e
          exact h (Prod.ext e.1 (Prod.ext e.2.1 e.2.2))
        simp (disch:=omega) only [wk,bit,nI,this,IH]
    · rw [List.drop_of_length_le (by omega)]; simp (disch:=omega) only [wk,bit,nI]; rfl
theorem qfl (k:Nat)(hk:2000000≤k)(r:Int)(z:Bool)(l:List Cell)(x:Cell)(hl:l.length≤1048576):go (k+1) spec_LeafOf [.agg [.int .i64 r,.arr false z (.r3 l)],.agg [.int .i64 x.1,.int .i64 x.2.1,.int .i64 x.2.2]]=some [.int .i64 (lof l x)]:=by
  rw [qmc]
  exact qt8 k hk [] r z l x hl _ 0 (by omega) (by omega)
theorem qsy (x:Cell): ∀ (l:List Cell)(i:Nat),(qsx x l i= -1∧x ∉ l)∨ ∃ j,j<l.length∧qsx x l i=((i+j:Nat):Int)∧l.getD j zz3=x
  | [],i=>Or.inl ⟨rfl,by simp⟩
  | y::r,i=>by
    unfold qsx
    by_cases h:y=x
    · rw [if_pos h]; exact Or.inr ⟨0,by simp,by simp,by simpa using h⟩
    · rw [if_neg h]
      rcases qsy x r (i+1) with ⟨e,n⟩ | ⟨j,hj,e,n⟩
      · exact Or.inl ⟨e,by simp only [List.mem_cons,not_or]; exact ⟨fun e=>h e.symm,n⟩⟩
      · exact Or.inr ⟨j+1,by simp; omega,by rw [e]; congr 1; omega,by simpa using n⟩
theorem qsz (l:List Cell)(x:Cell):(lof l x= -1∧x ∉ l)∨ ∃ j,j<l.length∧lof l x=(j:Int)∧l.getD j zz3=x:=by
  rcases qsy x l 0 with h | ⟨j,hj,e,n⟩
  · exact Or.inl h
  · exact Or.inr ⟨j,hj,by unfold lof; rw [e,Nat.zero_add],n⟩
theorem qv6: ∀ (l:List Cell)(p:Int),okp p l=true→ ∀ x∈l,p≤q00 x.1 x.2.1 x.2.2
  | [],p,h,x,hx=>by cases hx
  | y::l,p,h,x,hx=>by
    rw [qv5] at h
    rcases List.mem_cons.1 hx with rfl | hx
    · omega
    · have:=qv6 l _ h.2.2 x hx
      have:=q2z y.2.1
      omega
theorem q22 {x:Cell}(h:idOk x.1 x.2.1 x.2.2=true):1≤q2x x.2.1:=by
  rcases lev (qpe.2 (qpa.1 h).2.1) with e | e | e | e | e<;>rw [e]<;>decide
theorem qv7: ∀ (l:List Cell)(p:Int),okp p l=true→ ∀ i j,i<l.length→j<l.length→l.getD i zz3=l.getD j zz3→i=j
  | [],p,h,i,j,hi,hj,e=>by simp at hi
  | y::l,p,h,0,0,hi,hj,e=>rfl
  | y::l,p,h,0,j+1,hi,hj,e=>by
    rw [qv5] at h
    have hj' :j<l.length:=by simpa using hj
    have:=qv6 l _ h.2.2 _ (qov hj' zz3)
    have w:=q22 h.1
    simp only [List.getD_cons_zero,List.getD_cons_succ] at e
    rw [← e,h.2.1] at this
    omega
  | y::l,p,h,i+1,0,hi,hj,e=>by
    rw [qv5] at h
    have hi' :i<l.length:=by simpa using hi
    have:=qv6 l _ h.2.2 _ (qov hi' zz3)
    have w:=q22 h.1
    simp only [List.getD_cons_zero,List.getD_cons_succ] at e
    rw [e,h.2.1] at this
    omega
  | y::l,p,h,i+1,j+1,hi,hj,e=>by
    rw [qv5] at h
    have:=qv7 l _ h.2.2 i j (by simpa using hi) (by simpa using hj) (by simpa using e)
    omega
def Pw (w:List Int)(l0:List Cell)(x:Cell):Bool:=decide (0≤lof l0 x)&&decide (w.getD (lof l0 x).toNat 0= -1)
theorem qah {w:List Int}{l0:List Cell}{p:Int}(h:okp p l0=true)(x:Cell):Pw w l0 x=true↔ ∃ j,j<l0.length∧w.getD j 0= -1∧l0.getD j zz3=x:=by
  unfold Pw
  rw [Bool.and_eq_true,decide_eq_true_eq,decide_eq_true_eq]
  rcases qsz l0 x with ⟨e,n⟩ | ⟨j,hj,e,n⟩
  · rw [e]
    refine ⟨fun h=>by omega,fun ⟨j,hj,_,hx⟩=>absurd (hx ▸ qov hj zz3) n⟩
  · rw [e,Int.toNat_natCast]
    refine ⟨fun h=>⟨j,hj,h.2,n⟩,fun ⟨q,hq,hw,hx⟩=>⟨by omega,?_⟩⟩
    have:=qv7 l0 p h q j hq hj (by rw [hx,n])
    rw [← this]; exact hw
def ks (w:List Int)(l0:List Cell):Nat→List Cell→List Cell
  | 0,acc=>acc
  | n+1,acc=>ks w l0 n (if w.getD n 0=1 then acc else if w.getD n 0= -1 then acc++[l0.getD n zz3] else acc)
theorem qqj (w:List Int)(l0:List Cell)(x:Cell): ∀ (n:Nat)(acc:List Cell),x∈ks w l0 n acc↔x∈acc∨ ∃ j,j<n∧w.getD j 0= -1∧l0.getD j zz3=x
  | 0,acc=>⟨Or.inl,fun h=>h.elim id fun ⟨j,hj,_⟩=>by omega⟩
  | n+1,acc=>by
    rw [ks,qqj w l0 x n]
    by_cases h1:w.getD n 0=1
    · rw [if_pos h1]
      refine ⟨fun h=>h.imp id fun ⟨j,hj,e⟩=>⟨j,by omega,e⟩,fun h=>h.imp id fun ⟨j,hj,e,e'⟩=>⟨j,?_,e,e'⟩⟩
      by_cases hjn:j=n
      · subst hjn; omega
      · omega
    · rw [if_neg h1]
      by_cases h2:w.getD n 0= -1
      · rw [if_pos h2,List.mem_append,List.mem_singleton]
        refine ⟨fun h=> ?_,fun h=> ?_⟩
        · rcases h with (h | h) | ⟨j,hj,e⟩
          · exact Or.inl h
          · exact Or.inr ⟨n,by omega,h2,h.symm⟩
          · exact Or.inr ⟨j,by omega,e⟩
        · rcases h with h | ⟨j,hj,e,e'⟩
          · exact Or.inl (Or.inl h)
          · by_cases hjn:j=n
            · subst hjn; exact Or.inl (Or.inr e'.symm)
            · exact Or.inr ⟨j,by omega,e,e'⟩
      · rw [if_neg h2]
        refine ⟨fun h=>h.imp id fun ⟨j,hj,e⟩=>⟨j,by omega,e⟩,fun h=>h.imp id fun ⟨j,hj,e,e'⟩=>⟨j,?_,e,e'⟩⟩
        by_cases hjn:j=n
        · subst hjn; exact absurd e h2
        · omega
theorem qo3 (l:List Cell)(x:Cell):hasK l x=true↔x∈l:=by
  unfold hasK
  rw [List.any_eq_true]
  refine ⟨fun ⟨y,hy,e⟩=> ?_,fun h=>⟨x,h,by simp [eqK]⟩⟩
  have:x=y:=by
    simp only [eqK,Bool.and_eq_true,beq_iff_eq,decide_eq_true_eq] at e
    exact Prod.ext e.1 (Prod.ext e.2.1 e.2.2)
  rw [this]; exact hy
theorem qo2 {w:List Int}{l0:List Cell}{p:Int}(h:okp p l0=true)(x:Cell):hasK (ks w l0 l0.length []) x=Pw w l0 x:=by
  rw [Bool.eq_iff_iff,qo3,qqj,qah h]
  simp
def adS (w:List Int)(s:S3):S3:=mgS (Pw w s.1) 128 0 (lvS 128 (spS w s.1.length s))
set_option maxHeartbeats 1000000 in
theorem quq (k:Nat)(hk:2000000≤k)(fu:List (Nat×Nat))(z1 z2 z3 z4:Bool)(l0:List Cell)(m0 t0 b0:List Int)(r0:Int)(q1:Bool)(p1:List Cell)(q2:Bool)(p2:List Int)(q3:Bool)(p3:List Int)(q4:Bool)(p4:List Int)(x18:Int)(zw:Bool)(w:List Int)(r:Int)(b:List Int)(hl0:l0.length≤128)(hw:w.length=l0.length): ∀ (F N i:Nat)(s:S3),s.1.length - i≤F→F<N→i+F≤4096→StU r s b→
    lp (k+6) spec_l17Adapt [] fu 10 (N) (qzu (i:Int) z1 l0 z2 m0 z3 t0 z4 b0 r0 q1 p1 q2 p2 q3 p3 q4 p4 x18 zw w false s.1 false s.2.1 false s.2.2 false b r)=some [.agg [.int .i64 (r),.arr true (false) (.r3 ((mgS (Pw w l0) F i s).1)),.arr true (false) (.ints .i64 ((mgS (Pw w l0) F i s).2.1)),.arr true (false) (.ints .i64 ((mgS (Pw w l0) F i s).2.2)),.arr true (false) (.ints .i64 (b))]]
  | F,0,i,s,hF,hN,hi,U=>by omega
  | 0,N+1,i,s,hF,hN,hi,U=>by
    rw [qr9]
    have L:=U.len; have ml:=U.ml; have tl:=U.tl
    simp (disch:=omega) only [wk,bit,nI]; rfl
  | F+1,N+1,i,s,hF,hN,hi,U=>by
    rw [qr9]
    have L:=U.len; have ml:=U.ml; have tl:=U.tl
    unfold mgS
    by_cases g:i+1<s.1.length
    · rw [if_pos g]
      have IH0:=quq k hk fu z1 z2 z3 z4 l0 m0 t0 b0 r0 q1 p1 q2 p2 q3 p3 q4 p4 x18 zw w r b hl0 hw F N (i+1) s (by omega) (by omega) (by omega) U
      have eX:=qfl (k+5) (by omega) r0 z1 l0 (s.1.getD i zz3) (by omega)
      have eY:=qfl (k+5) (by omega) r0 z1 l0 (s.1.getD (i+1) zz3) (by omega)
      have eM:=qgi (k+2) (by omega) r false s.1 U.mesh i g
      rcases qsz l0 (s.1.getD i zz3) with ⟨ex,_⟩ | ⟨j,hj,ex,_⟩
      · have pX:Pw w l0 (s.1.getD i zz3)=false:=by unfold Pw; rw [ex]; simp
        rw [ex] at eX
        rw [if_neg (by rw [pX]; simp)]
        simp (disch:=omega) only [wk,bit,nI,eX,eY,IH0]
      have pX:Pw w l0 (s.1.getD i zz3)=decide (w.getD j 0= -1):=by unfold Pw; rw [ex]; simp
      rw [ex] at eX
      rcases qsz l0 (s.1.getD (i+1) zz3) with ⟨ey,_⟩ | ⟨q,hq,ey,_⟩
      · have pY:Pw w l0 (s.1.getD (i+1) zz3)=false:=by unfold Pw; rw [ey]; simp
        rw [ey] at eY
        rw [if_neg (by rw [pY]; simp)]
        simp (disch:=omega) only [wk,bit,nI,eX,eY,IH0]
      have pY:Pw w l0 (s.1.getD (i+1) zz3)=decide (w.getD q 0= -1):=by unfold Pw; rw [ey]; simp
      rw [ey] at eY
      by_cases h1:w.getD j 0= -1
      · by_cases h2:w.getD q 0= -1
        · rw [dT h1] at pX
          rw [dT h2] at pY
          cases hm:mayC s.1 i
          · rw [if_neg (by rw [pX,pY]; simp)]
            simp (disch:=omega) only [wk,bit,nI,eX,eY,h1,h2,eM,hm,IH0]
          · have hs:=hm
            simp only [mayC,Bool.and_eq_true] at hs
            have sl:=q0c hs.1
            have U' :=cm_U U g hs.1
            have ln:=qu3 g
            have IH1:=quq k hk fu z1 z2 z3 z4 l0 m0 t0 b0 r0 q1 p1 q2 p2 q3 p3 q4 p4 x18 zw w r b hl0 hw F N (i+1) (cmS s i) (by show (qu2 s.1 i).length - (i+1)≤F; omega) (by omega) (by omega) U'
            have eG:=qgn (k+1) (by omega) r s b U i g sl
            rw [if_pos (by rw [pX,pY]; simp)]
            simp (disch:=omega) only [wk,bit,nI,eX,eY,h1,h2,eM,hm,eG,IH1]
        · rw [dF h2] at pY
          rw [if_neg (by rw [pY]; simp)]
          simp (disch:=omega) only [wk,bit,nI,eX,eY,h1,h2,IH0]
      · rw [dF h1] at pX
        rw [if_neg (by rw [pX]; simp)]
        simp (disch:=omega) only [wk,bit,nI,eX,eY,h1,IH0]
    · rw [if_neg g]; simp (disch:=omega) only [wk,bit,nI]
theorem qut (k:Nat)(hk:2000000≤k)(fu:List (Nat×Nat))(z1 z2 z3 z4:Bool)(l0:List Cell)(m0 t0 b0:List Int)(r0:Int)(q1:Bool)(p1:List Cell)(q2:Bool)(p2:List Int)(q3:Bool)(p3:List Int)(q4:Bool)(p4:List Int)(x18:Int)(zw:Bool)(w:List Int)(r:Int)(b:List Int)(hl0:l0.length≤128)(hw:w.length=l0.length)(hw1: ∀ j,w.getD j 0=1→qsj l0 j<4): ∀ (N n:Nat)(s:S3),n<N→n≤l0.length→n≤s.1.length→(∀ j,j<n→s.1.getD j zz3=l0.getD j zz3)→StU r s b→
    lp (k+6) spec_l17Adapt [] fu 4 (N) (qzv ((n:Int) - 1) z1 l0 z2 m0 z3 t0 z4 b0 r0 q1 p1 q2 p2 q3 p3 q4 p4 x18 zw w false s.1 false s.2.1 false s.2.2 false b r)=some [.agg [.int .i64 (r),.arr true (false) (.r3 ((mgS (Pw w l0) 128 0 (lvS 128 (spS w n s))).1)),.arr true (false) (.ints .i64 ((mgS (Pw w l0) 128 0 (lvS 128 (spS w n s))).2.1)),.arr true (false) (.ints .i64 ((mgS (Pw w l0) 128 0 (lvS 128 (spS w n s))).2.2)),.arr true (false) (.ints .i64 (b))]]
  | 0,n,s,hN,hn,hs,he,U=>by omega
  | N+1,0,s,hN,hn,hs,he,U=>by
    rw [qsa]
    have L:=U.len
    have eL:=qg5 k (by omega) r s b U
    have U' :=(qs0 128 s U (by omega)).1
    have L' :=U'.len
    have e:=quq k hk fu z1 z2 z3 z4 l0 m0 t0 b0 r0 q1 p1 q2 p2 q3 p3 q4 p4 x18 zw w r b hl0 hw 128 (k+6) 0 (lvS 128 s) (by omega) (by omega) (by omega) U'
    rw [show ((0:Nat):Int)=0 from rfl] at e ⊢
    simp (disch:=omega) only [wk,bit,nI,eL,e]
    rfl
  | N+1,n+1,s,hN,hn,hs,he,U=>by
    rw [show ((n+1:Nat):Int) - 1=(n:Int) by omega,qsa]
    have L:=U.len
    unfold spS
    by_cases h1:w.getD n 0=1
    · rw [if_pos h1]
      have hl:qsj s.1 n<4:=by have:=hw1 n h1; unfold qsj at*; rw [he n (by omega)]; exact this
      have U' :=rf_U U (show n<s.1.length by omega) hl
      have ln:=q0r (show n<s.1.length by omega)
      have IH:=qut k hk fu z1 z2 z3 z4 l0 m0 t0 b0 r0 q1 p1 q2 p2 q3 p3 q4 p4 x18 zw w r b hl0 hw hw1 N n (rfS s n) (by omega) (by omega) (by show n≤(q0q s.1 n).length; omega) (fun j hj=>by
        show (q0q s.1 n).getD j zz3=_
        rw [q0s (by omega) hj]; exact he j (by omega)) U'
      have eS:=qgo (k+1) (by omega) r s b U n (by omega) hl
      simp (disch:=omega) only [wk,bit,nI,h1,eS,IH]
    · rw [if_neg h1]
      have IH:=qut k hk fu z1 z2 z3 z4 l0 m0 t0 b0 r0 q1 p1 q2 p2 q3 p3 q4 p4 x18 zw w r b hl0 hw hw1 N n s (by omega) (by omega) (by omega) (fun j hj=>he j (by omega)) U
      simp (disch:=omega) only [wk,bit,nI,IH]
theorem q28 {l:List Cell}{m b:List Int}{hi lo:Int}(j:Nat)(h:(tab l.length (wsh l m b hi lo)).getD j 0=1):qsj l j<4:=by
  by_cases hj:j<l.length
  · rw [q1q hj] at h
    unfold wsh at h
    by_cases c:hi<jmp l m b j∧qsj l j<4
    · exact c.2
    · rw [if_neg c] at h
      split at h<;>omega
  · rw [qou (by rw [q1r]; omega)] at h; omega
theorem qgx (k:Nat)(hk:2000000≤k)(r:Int)(l:List Cell)(m t b:List Int)(F:StF r l m t b)(hi lo:Int):
    go (k+7) spec_l17Adapt [.agg [.int .i64 (r),.arr false (false) (.r3 (l)),.arr false (false) (.ints .i64 (m)),.arr false (false) (.ints .i64 (t)),.arr false (false) (.ints .i64 (b))],.int .i64 hi,.int .i64 lo]=some [.agg [.int .i64 (r),.arr true (false) (.r3 ((adS (tab l.length (wsh l m b hi lo)) (l,m,t)).1)),.arr true (false) (.ints .i64 ((adS (tab l.length (wsh l m b hi lo)) (l,m,t)).2.1)),.arr true (false) (.ints .i64 ((adS (tab l.length (wsh l m b hi lo)) (l,m,t)).2.2)),.arr true (false) (.ints .i64 (b))]]:=by
  rw [qnq]
  have L:=F.len; have ml:=F.ml; have tl:=F.tl; have bl:=F.bl; have rr:=F.rr
  have eW:=qfy (k+3) (by omega) hi lo r false false false false l m t b F
  simp (disch:=omega) only [wk,bit,nI,eW,qgk,q1r]
  exact qut k hk [] false false false false l m t b r true [] true [] true [] true [] 0 false _ r b (by omega) (q1r _ _) q28 (k+6) l.length (l,m,t) (by omega) (by omega) (by show l.length≤l.length; omega) (fun j hj=>rfl) F.toU
set_option maxHeartbeats 1000000 in
theorem qto (k:Nat)(hk:2000000≤k)(fu:List (Nat×Nat))(w0:Int)(v1:Bool)(w1:List Cell)(v2:Bool)(w2:List Int)(v3:Bool)(w3:List Int)(v4:Bool)(w4:List Int)(r:Int)(b:List Int)(K:List Cell)(P:Cell→Bool)(hP: ∀ x,hasK K x=P x): ∀ (F N i:Nat)(s:S3),s.1.length - i≤F→F<N→i+F≤4096→StU r s b→
    lp (k+9) impl_State_adapt [.ptr true [.int .i64 w0,.arr true v1 (.r3 w1),.arr true v2 (.ints .i64 w2),.arr true v3 (.ints .i64 w3),.arr true v4 (.ints .i64 w4)]] fu 12 N (qyi (i:Int) false s.1 false s.2.1 false s.2.2 false b r K)=some [.ptr true [.int .i64 (r),.arr true (false) (.r3 ((mgS P F i s).1)),.arr true (false) (.ints .i64 ((mgS P F i s).2.1)),.arr true (false) (.ints .i64 ((mgS P F i s).2.2)),.arr true (false) (.ints .i64 (b))]]
  | F,0,i,s,hF,hN,hi,U=>by omega
  | 0,N+1,i,s,hF,hN,hi,U=>by
    rw [qqx]
    have L:=U.len
    simp (disch:=omega) only [wk,bit,nI]; rfl
  | F+1,N+1,i,s,hF,hN,hi,U=>by
    rw [qqx]
    have L:=U.len; have ml:=U.ml; have tl:=U.tl
    unfold mgS
    by_cases g:i+1<s.1.length
    · rw [if_pos g]
      have IH0:=qto k hk fu w0 v1 w1 v2 w2 v3 w3 v4 w4 r b K P hP F N (i+1) s (by omega) (by omega) (by omega) U
      have eM:=qd7 (k+3) (by omega) r false s.1 U.mesh i g
      have hx:=hP (s.1.getD i zz3); have hy:=hP (s.1.getD (i+1) zz3)
      cases p1:P (s.1.getD i zz3)
      · rw [p1] at hx
        rw [if_neg (by simp)]
        simp (disch:=omega) only [wk,bit,nI,hx,IH0]
      rw [p1] at hx
      cases p2:P (s.1.getD (i+1) zz3)
      · rw [p2] at hy
        rw [if_neg (by simp)]
        simp (disch:=omega) only [wk,bit,nI,hx,hy,IH0]
      rw [p2] at hy
      cases hm:mayC s.1 i
      · rw [if_neg (by simp)]
        simp (disch:=omega) only [wk,bit,nI,hx,hy,eM,hm,IH0]
      · have hs:=hm
        simp only [mayC,Bool.and_eq_true] at hs
        have sl:=q0c hs.1
        have U' :=cm_U U g hs.1
        have ln:=qu3 g
        have IH1:=qto k hk fu w0 v1 w1 v2 w2 v3 w3 v4 w4 r b K P hP F N (i+1) (cmS s i) (by show (qu2 s.1 i).length - (i+1)≤F; omega) (by omega) (by omega) U'
        have eG:=qdl (k+3) (by omega) r s b U i g sl
        rw [if_pos (show (true&&(true&&true))=true from rfl)]
        simp (disch:=omega) only [wk,bit,nI,hx,hy,eM,hm,eG,qwt,qwu,qwv,q2d,q2e,IH1]
    · rw [if_neg g]; simp (disch:=omega) only [wk,bit,nI]
theorem qts (k:Nat)(hk:2000000≤k)(fu:List (Nat×Nat))(w0:Int)(v1:Bool)(w1:List Cell)(v2:Bool)(w2:List Int)(v3:Bool)(w3:List Int)(v4:Bool)(w4:List Int)(r:Int)(b:List Int)(l0:List Cell)(zw:Bool)(w:List Int)(P:Cell→Bool)(hl0:l0.length≤128)(hw:w.length=l0.length)(hw1: ∀ j,w.getD j 0=1→qsj l0 j<4): ∀ (N n:Nat)(s:S3)(acc:List Cell),n<N→n≤l0.length→n≤s.1.length→(∀ j,j<n→s.1.getD j zz3=l0.getD j zz3)→StU r s b→(∀ x,hasK (ks w l0 n acc) x=P x)→
    lp (k+9) impl_State_adapt [.ptr true [.int .i64 w0,.arr true v1 (.r3 w1),.arr true v2 (.ints .i64 w2),.arr true v3 (.ints .i64 w3),.arr true v4 (.ints .i64 w4)]] fu 3 N (qyj ((n:Int) - 1) false s.1 false s.2.1 false s.2.2 false b r zw w acc)=some [.ptr true [.int .i64 (r),.arr true (false) (.r3 ((mgS P 128 0 (lvS 128 (spS w n s))).1)),.arr true (false) (.ints .i64 ((mgS P 128 0 (lvS 128 (spS w n s))).2.1)),.arr true (false) (.ints .i64 ((mgS P 128 0 (lvS 128 (spS w n s))).2.2)),.arr true (false) (.ints .i64 (b))]]
  | 0,n,s,acc,hN,hn,hs,he,U,hK=>by omega
  | N+1,0,s,acc,hN,hn,hs,he,U,hK=>by
    rw [qqy]
    have L:=U.len
    have eL:=qdj (k+5) (by omega) r s b U
    have U' :=(qs0 128 s U (by omega)).1
    have L' :=U'.len
    have e:=qto k hk fu w0 v1 w1 v2 w2 v3 w3 v4 w4 r b acc P hK 128 (k+9) 0 (lvS 128 s) (by omega) (by omega) (by omega) U'
    rw [show ((0:Nat):Int)=0 from rfl] at e ⊢
    simp (disch:=omega) only [wk,bit,nI,eL,qwt,qwu,qwv,q2d,q2e,e]
    rfl
  | N+1,n+1,s,acc,hN,hn,hs,he,U,hK=>by
    rw [show ((n+1:Nat):Int) - 1=(n:Int) by omega,qqy]
    have L:=U.len
    unfold spS
    unfold ks at hK
    by_cases h1:w.getD n 0=1
    · rw [if_pos h1]
      rw [if_pos h1] at hK
      have hl:qsj s.1 n<4:=by have:=hw1 n h1; unfold qsj at*; rw [he n (by omega)]; exact this
      have U' :=rf_U U (show n<s.1.length by omega) hl
      have ln:=q0r (show n<s.1.length by omega)
      have IH:=qts k hk fu w0 v1 w1 v2 w2 v3 w3 v4 w4 r b l0 zw w P hl0 hw hw1 N n (rfS s n) acc (by omega) (by omega) (by show n≤(q0q s.1 n).length; omega) (fun j hj=>by
        show (q0q s.1 n).getD j zz3=_
        rw [q0s (by omega) hj]; exact he j (by omega)) U' hK
      have eS:=qee (k+6) (by omega) r s b U n (by omega) hl
      simp (disch:=omega) only [wk,bit,nI,h1,eS,qwt,qwu,qwv,q2d,q2e,IH]
    · rw [if_neg h1]
      rw [if_neg h1] at hK
      by_cases h2:w.getD n 0= -1
      · rw [if_pos h2] at hK
        have IH:=qts k hk fu w0 v1 w1 v2 w2 v3 w3 v4 w4 r b l0 zw w P hl0 hw hw1 N n s _ (by omega) (by omega) (by omega) (fun j hj=>he j (by omega)) U hK
        have hen:=he n (by omega)
        simp (disch:=omega) only [wk,bit,nI,h2,hen,IH]
      · rw [if_neg h2] at hK
        have IH:=qts k hk fu w0 v1 w1 v2 w2 v3 w3 v4 w4 r b l0 zw w P hl0 hw hw1 N n s acc (by omega) (by omega) (by omega) (fun j hj=>he j (by omega)) U hK
        simp (disch:=omega) only [wk,bit,nI,IH]
theorem qdi (k:Nat)(hk:2000000≤k)(r:Int)(l:List Cell)(m t b:List Int)(F:StF r l m t b)(hi lo:Int):
    go (k+10) impl_State_adapt [.ptr true [.int .i64 (r),.arr true (false) (.r3 (l)),.arr true (false) (.ints .i64 (m)),.arr true (false) (.ints .i64 (t)),.arr true (false) (.ints .i64 (b))],.int .i64 hi,.int .i64 lo]=some [.ptr true [.int .i64 (r),.arr true (false) (.r3 ((adS (tab l.length (wsh l m b hi lo)) (l,m,t)).1)),.arr true (false) (.ints .i64 ((adS (tab l.length (wsh l m b hi lo)) (l,m,t)).2.1)),.arr true (false) (.ints .i64 ((adS (tab l.length (wsh l m b hi lo)) (l,m,t)).2.2)),.arr true (false) (.ints .i64 (b))]]:=by
  rw [qj9]
  have L:=F.len; have ml:=F.ml; have tl:=F.tl; have bl:=F.bl; have rr:=F.rr
  have eW:=qdc k (by omega) hi lo r false false false false l m t b F
  simp (disch:=omega) only [wk,bit,nI,eW,q1r]
  have hP:=qo2 (w:=tab l.length (wsh l m b hi lo)) (qu8.1 F.mesh).1
  exact qts k hk [] _ _ _ _ _ _ _ _ _ r b l false _ _ (by omega) (q1r _ _) q28 (k+9) l.length (l,m,t) [] (by omega) (by omega) (by show l.length≤l.length; omega) (fun j hj=>rfl) F.toU hP
theorem ad_U {r:Int}{l:List Cell}{m t b:List Int}(F:StF r l m t b)(hi lo:Int):StF r (adS (tab l.length (wsh l m b hi lo)) (l,m,t)).1 (adS (tab l.length (wsh l m b hi lo)) (l,m,t)).2.1 (adS (tab l.length (wsh l m b hi lo)) (l,m,t)).2.2 b:=by
  have U:=q0h (tab l.length (wsh l m b hi lo)) l q28 l.length (l,m,t) F.toU (Nat.le_refl _) (fun j hj=>rfl)
  have V:=qs0 128 _ U (by have:=U.len; omega)
  exact (qve _ 128 0 _ V.1).toF (qvg _ 128 0 _ V.2)
end Go.Proofs.YtjfjniebmdafeaaGreatDoor
end
section
namespace Go.Proofs.YtjfjniebmdafeaaGreatDoor
open Go.Ev
abbrev S2:=List Int×List Int
structure Ld where
  mi:Int
  mo:Int
  ti:Int
  ou:Int
structure Pl where
  bi:Int
  bs:Int
  bo:Int
  rain:Int
  loss:Int
  dec:Int
  high:Int
  low:Int
  every:Int
def Ld.add (a b:Ld):Ld:=⟨a.mi+b.mi,a.mo+b.mo,a.ti+b.ti,a.ou+b.ou⟩
structure Led (s s' :S2) (l:Ld):Prop where
  m:isum s'.1=isum s.1+l.mi - l.mo
  t:isum s'.2=isum s.2+l.ti - l.ou
  mi:0≤l.mi∧l.mi≤10000000
  mo:0≤l.mo∧l.mo≤10000000
  ti:0≤l.ti∧l.ti≤10000000000
  ou:0≤l.ou∧l.ou≤10000000000
theorem qpu: ∀ (l:List Int)(i:Nat)(x:Int),i<l.length→isum (l.set i x)=isum l - l.getD i 0+x
  | [],i,x,h=>by simp at h
  | y::l,0,x,h=>by simp only [List.set_cons_zero,isum,List.getD_cons_zero]; omega
  | y::l,i+1,x,h=>by
    have:=qpu l i x (by simpa using h)
    simp only [List.set_cons_succ,isum,List.getD_cons_succ,this]; omega
theorem q1g (f g:Nat→Int): ∀ n,q1f (fun j=>f j+g j) n=q1f f n+q1f g n
  | 0=>rfl
  | n+1=>by have:=q1g f g n; simp only [q1f]; omega
theorem q1k (f g:Nat→Int): ∀ n,q1f (fun j=>f j - g j) n=q1f f n - q1f g n
  | 0=>rfl
  | n+1=>by have:=q1k f g n; simp only [q1f]; omega
theorem q1j {f:Nat→Int} : ∀ n,(∀ j,j<n→0≤f j)→0≤q1f f n
  | 0,h=>Int.le_refl _
  | n+1,h=>by have:=q1j n fun j hj=>h j (by omega); have:=h n (by omega); simp only [q1f]; omega
theorem q1h {f g:Nat→Int} : ∀ n,(∀ j,j<n→f j≤g j)→q1f f n≤q1f g n
  | 0,h=>Int.le_refl _
  | n+1,h=>by have:=q1h n fun j hj=>h j (by omega); have:=h n (by omega); simp only [q1f]; omega
theorem StF.tle {r:Int}{l:List Cell}{m t b:List Int}(F:StF r l m t b):0≤isum t∧isum t≤10000000000:=by
  have e:isum t≤1000*isum m:=by
    rw [qpv t,qpv m,F.tl,F.ml]
    have: ∀ n,q1f (fun j=>t.getD j 0) n≤1000*q1f (fun j=>m.getD j 0) n:=by
      intro n
      induction n with
      | zero=>simp [q1f]
      | succ n ih=>have:=F.at n; simp only [q1f]; omega
    exact this _
  have:=F.tsum; have:=F.msum
  omega
theorem StF.mk' {r:Int}{l:List Cell}{m t b m' t' :List Int}(F:StF r l m t b)(hm:m'.length=l.length)(ht:t'.length=l.length)(h: ∀ i,i<l.length→0≤m'.getD i 0∧0≤t'.getD i 0∧t'.getD i 0≤1000*m'.getD i 0)(hs:isum m' ≤10000000):StF r l m' t' b:=by
  refine ⟨F.mesh,F.bal,hm,ht,F.bl,?_,F.bed,hs⟩
  refine quz _ _ (by omega) fun i hi=> ?_
  have a:=h i (by omega)
  have nn: ∀ x∈m',0≤x:=by
    intro x hx
    obtain ⟨j,hj,rfl⟩:=List.getElem_of_mem hx
    have:=(h j (by omega)).1
    rwa [List.getD_eq_getElem?_getD,List.getElem?_eq_getElem hj,Option.getD_some] at this
  have:=qny m' nn _ (qov hi 0)
  exact ⟨⟨a.1,by omega⟩,a.2⟩
def boX (o:Int)(m:List Int):Int:=m.getD (m.length - 1) 0*o / 1000
def boY (o:Int)(m t:List Int):Int:=qz4 (t.getD (m.length - 1) 0) (boX o m) (m.getD (m.length - 1) 0)
def bo1 (o:Int)(s:S2):S2:=(s.1.set (s.1.length - 1) (s.1.getD (s.1.length - 1) 0 - boX o s.1),s.2.set (s.1.length - 1) (s.2.getD (s.1.length - 1) 0 - boY o s.1 s.2))
def bo2 (a c:Int)(s:S2):S2:=(s.1.set 0 (s.1.getD 0 0+a),s.2.set 0 (s.2.getD 0 0+a*c))
def boS (a c o:Int)(s:S2):S2×Ld:=if isum (bo1 o s).1+a≤10000000 then (bo2 a c (bo1 o s),⟨a,boX o s.1,a*c,boY o s.1 s.2⟩) else (bo1 o s,⟨0,boX o s.1,0,boY o s.1 s.2⟩)
section
variable {r:Int} {l:List Cell} {m t b:List Int}
theorem qwe {x y p:Int}(hx:0≤x∧x≤10000000)(hy:0≤y∧y≤1000*x)(hp:0≤p∧p≤x):(0≤qz4 y p x∧qz4 y p x≤y)∧y - qz4 y p x≤1000*(x - p):=by
  by_cases h:1≤x
  · have:=qz9 h hp.1 hp.2 hy.1 hy.2
    rw [qz5 h hx.2 hp.1 hp.2 hy.1 hy.2]
    omega
  · have e:qz4 y p x=0:=by
      unfold qz4
      have:inR x 1 10000000=false:=by rw [← Bool.not_eq_true,qpe]; omega
      rw [this]; rfl
    rw [e]; omega
theorem qby (F:StF r l m t b){o:Int}(ho:0≤o∧o≤250):0≤boX o m∧boX o m≤m.getD (m.length - 1) 0:=by
  have a:=F.at (m.length - 1)
  unfold boX
  have h1:0≤m.getD (m.length - 1) 0*o:=Int.mul_nonneg a.1 ho.1
  have h2:m.getD (m.length - 1) 0*o≤m.getD (m.length - 1) 0*250:=Int.mul_le_mul_of_nonneg_left ho.2 a.1
  omega
theorem qbz (F:StF r l m t b){o:Int}(ho:0≤o∧o≤250):(0≤boY o m t∧boY o m t≤t.getD (m.length - 1) 0)∧t.getD (m.length - 1) 0 - boY o m t≤1000*(m.getD (m.length - 1) 0 - boX o m):=by
  have a:=F.at (m.length - 1)
  exact qwe ⟨a.1,a.2.1⟩ a.2.2 (qby F ho)
theorem qz1 {x:List Int}{i j:Nat}{v:Int}(h:i<x.length):(x.set i v).getD j 0=if i=j then v else x.getD j 0:=by
  rw [qz2]
  by_cases e:i=j
  · rw [if_pos ⟨e,h⟩,if_pos e]
  · rw [if_neg (fun c=>e c.1),if_neg e]
theorem qbw (F:StF r l m t b){o:Int}(ho:0≤o∧o≤250):StF r l (bo1 o (m,t)).1 (bo1 o (m,t)).2 b∧isum (bo1 o (m,t)).1=isum m - boX o m∧isum (bo1 o (m,t)).2=isum t - boY o m t:=by
  have L:=F.len; have ml:=F.ml; have tl:=F.tl
  have x:=qby F ho; have y:=qbz F ho
  have e1:isum (bo1 o (m,t)).1=isum m - boX o m:=by
    show isum (m.set (m.length - 1) (m.getD (m.length - 1) 0 - boX o m))=_
    rw [qpu _ _ _ (by omega)]; omega
  have e2:isum (bo1 o (m,t)).2=isum t - boY o m t:=by
    show isum (t.set (m.length - 1) (t.getD (m.length - 1) 0 - boY o m t))=_
    rw [qpu _ _ _ (by omega)]; omega
  refine ⟨F.mk' (by show (m.set _ _).length=_; rw [List.length_set]; exact ml) (by show (t.set _ _).length=_; rw [List.length_set]; exact tl) (fun i hi=> ?_) (by rw [e1]; have:=F.msum; omega),e1,e2⟩
  have a:=F.at i
  show 0≤(m.set (m.length - 1) (m.getD (m.length - 1) 0 - boX o m)).getD i 0∧0≤(t.set (m.length - 1) (t.getD (m.length - 1) 0 - boY o m t)).getD i 0∧(t.set (m.length - 1) (t.getD (m.length - 1) 0 - boY o m t)).getD i 0≤1000*(m.set (m.length - 1) (m.getD (m.length - 1) 0 - boX o m)).getD i 0
  rw [qz1 (by omega),qz1 (by omega)]
  by_cases g:m.length - 1=i
  · rw [if_pos g,if_pos g]; omega
  · rw [if_neg g,if_neg g]; omega
theorem qpf {a c:Int}(ha:0≤a∧a≤10000)(hc:0≤c∧c≤1000):0≤a*c∧a*c≤1000*a:=by
  have h1:=Int.mul_nonneg ha.1 hc.1
  have h2:a*c≤a*1000:=Int.mul_le_mul_of_nonneg_left hc.2 ha.1
  omega
theorem qbx (F:StF r l m t b){a c o:Int}(ha:0≤a∧a≤10000)(hc:0≤c∧c≤1000)(ho:0≤o∧o≤250):StF r l (boS a c o (m,t)).1.1 (boS a c o (m,t)).1.2 b∧Led (m,t) (boS a c o (m,t)).1 (boS a c o (m,t)).2:=by
  obtain ⟨G,e1,e2⟩:=qbw F ho
  have L:=F.len; have ml:=F.ml; have tl:=F.tl
  have x:=qby F ho; have y:=(qbz F ho).1; have p:=qpf ha hc
  have fa:=F.at (m.length - 1)
  unfold boS
  by_cases g:isum (bo1 o (m,t)).1+a≤10000000
  · rw [if_pos g]
    have gl:=G.ml; have gt:=G.tl
    have s1:isum (bo2 a c (bo1 o (m,t))).1=isum (bo1 o (m,t)).1+a:=by
      show isum ((bo1 o (m,t)).1.set 0 ((bo1 o (m,t)).1.getD 0 0+a))=_
      rw [qpu _ _ _ (by omega)]; omega
    have s2:isum (bo2 a c (bo1 o (m,t))).2=isum (bo1 o (m,t)).2+a*c:=by
      show isum ((bo1 o (m,t)).2.set 0 ((bo1 o (m,t)).2.getD 0 0+a*c))=_
      rw [qpu _ _ _ (by omega)]; omega
    refine ⟨G.mk' (by show (List.set _ _ _).length=_; rw [List.length_set]; exact gl) (by show (List.set _ _ _).length=_; rw [List.length_set]; exact gt) (fun i hi=> ?_) (by show isum (bo2 a c (bo1 o (m,t))).1≤_; rw [s1]; exact g),⟨?_,?_,⟨ha.1,by show a≤_; omega⟩,⟨x.1,by show boX o m≤_; omega⟩,⟨p.1,by show a*c≤_; omega⟩,⟨y.1,by show boY o m t≤_; omega⟩⟩⟩
    · have q:=G.at i
      show 0≤((bo1 o (m,t)).1.set 0 ((bo1 o (m,t)).1.getD 0 0+a)).getD i 0∧0≤((bo1 o (m,t)).2.set 0 ((bo1 o (m,t)).2.getD 0 0+a*c)).getD i 0∧((bo1 o (m,t)).2.set 0 ((bo1 o (m,t)).2.getD 0 0+a*c)).getD i 0≤1000*((bo1 o (m,t)).1.set 0 ((bo1 o (m,t)).1.getD 0 0+a)).getD i 0
      rw [qz1 (by omega),qz1 (by omega)]
      by_cases h:0=i
      · subst h; rw [if_pos rfl,if_pos rfl]; omega
      · rw [if_neg h,if_neg h]; omega
    · show isum (bo2 a c (bo1 o (m,t))).1=isum m+a - boX o m; omega
    · show isum (bo2 a c (bo1 o (m,t))).2=isum t+a*c - boY o m t; omega
  · rw [if_neg g]
    refine ⟨G,⟨?_,?_,⟨Int.le_refl _,by show (0:Int)≤_; omega⟩,⟨x.1,by show boX o m≤_; omega⟩,⟨Int.le_refl _,by show (0:Int)≤_; omega⟩,⟨y.1,by show boY o m t≤_; omega⟩⟩⟩
    · show isum (bo1 o (m,t)).1=isum m+0 - boX o m; omega
    · show isum (bo1 o (m,t)).2=isum t+0 - boY o m t; omega
end
def part (a:Int)(l:List Cell)(j:Nat):Int:=a*q2x (qsj l j) / 16
theorem qwj {a:Int}(ha:0≤a∧a≤10000)(l:List Cell)(j:Nat):0≤part a l j∧part a l j≤a:=by
  have w:=q2z (qsj l j)
  unfold part
  have h1:=Int.mul_nonneg ha.1 w.1
  have h2:a*q2x (qsj l j)≤a*16:=Int.mul_le_mul_of_nonneg_left w.2 ha.1
  omega
def raS (a:Int)(l:List Cell)(s:S2):S2×Ld:=if isum s.1+q1f (part a l) l.length≤10000000 then ((tab l.length (fun j=>s.1.getD j 0+part a l j),s.2),⟨q1f (part a l) l.length,0,0,0⟩) else (s,⟨0,0,0,0⟩)
def soX (a:Int)(l:List Cell)(m:List Int)(j:Nat):Int:=min (m.getD j 0) (part a l j)
def soY (a:Int)(l:List Cell)(m t:List Int)(j:Nat):Int:=qz4 (t.getD j 0) (soX a l m j) (m.getD j 0)
def soS (a:Int)(l:List Cell)(s:S2):S2×Ld:=((tab l.length (fun j=>s.1.getD j 0 - soX a l s.1 j),tab l.length (fun j=>s.2.getD j 0 - soY a l s.1 s.2 j)),⟨0,q1f (soX a l s.1) l.length,0,q1f (soY a l s.1 s.2) l.length⟩)
def deX (a:Int)(t:List Int)(j:Nat):Int:=t.getD j 0*a / 1000
def deS (a:Int)(l:List Cell)(s:S2):S2×Ld:=((s.1,tab l.length (fun j=>s.2.getD j 0 - deX a s.2 j)),⟨0,0,0,q1f (deX a s.2) l.length⟩)
section
variable {r:Int} {l:List Cell} {m t b:List Int}
theorem qwk {a:Int}(ha:0≤a∧a≤10000)(l:List Cell): ∀ n:Nat,0≤q1f (part a l) n∧q1f (part a l) n≤10000*n
  | 0=>by simp [q1f]
  | n+1=>by have:=qwk ha l n; have:=qwj ha l n; simp only [q1f]; omega
theorem qwz (F:StF r l m t b){a:Int}(ha:0≤a∧a≤10000):StF r l (raS a l (m,t)).1.1 (raS a l (m,t)).1.2 b∧Led (m,t) (raS a l (m,t)).1 (raS a l (m,t)).2:=by
  have L:=F.len; have ml:=F.ml; have tl:=F.tl
  have p:=qwk ha l l.length
  unfold raS
  by_cases g:isum m+q1f (part a l) l.length≤10000000
  · rw [if_pos g]
    have e1:isum (tab l.length (fun j=>m.getD j 0+part a l j))=isum m+q1f (part a l) l.length:=by
      rw [qpw,q1g,qpv m,ml]
    refine ⟨F.mk' (q1r _ _) tl (fun i hi=> ?_) (by show isum (tab l.length (fun j=>m.getD j 0+part a l j))≤10000000; omega),⟨?_,?_,⟨p.1,by show q1f _ _≤_; have:=F.msum; omega⟩,⟨Int.le_refl _,by show (0:Int)≤_; omega⟩,⟨Int.le_refl _,by show (0:Int)≤_; omega⟩,⟨Int.le_refl _,by show (0:Int)≤_; omega⟩⟩⟩
    · have a1:=F.at i; have a2:=qwj ha l i
      show 0≤(tab l.length (fun j=>m.getD j 0+part a l j)).getD i 0∧0≤t.getD i 0∧t.getD i 0≤1000*(tab l.length (fun j=>m.getD j 0+part a l j)).getD i 0
      rw [q1q hi]; omega
    · show isum (tab l.length (fun j=>m.getD j 0+part a l j))=isum m+q1f (part a l) l.length - 0; omega
    · show isum t=isum t+0 - 0; omega
  · rw [if_neg g]
    refine ⟨F,⟨?_,?_,⟨Int.le_refl _,by show (0:Int)≤_; omega⟩,⟨Int.le_refl _,by show (0:Int)≤_; omega⟩,⟨Int.le_refl _,by show (0:Int)≤_; omega⟩,⟨Int.le_refl _,by show (0:Int)≤_; omega⟩⟩⟩
    · show isum m=isum m+0 - 0; omega
    · show isum t=isum t+0 - 0; omega
theorem q0e (F:StF r l m t b){a:Int}(ha:0≤a∧a≤10000)(j:Nat):0≤soX a l m j∧soX a l m j≤m.getD j 0:=by
  have a1:=F.at j; have a2:=qwj ha l j
  unfold soX; omega
theorem q0f (F:StF r l m t b){a:Int}(ha:0≤a∧a≤10000)(j:Nat):(0≤soY a l m t j∧soY a l m t j≤t.getD j 0)∧t.getD j 0 - soY a l m t j≤1000*(m.getD j 0 - soX a l m j):=by
  have a1:=F.at j
  exact qwe ⟨a1.1,a1.2.1⟩ a1.2.2 (q0e F ha j)
theorem q0g (F:StF r l m t b){a:Int}(ha:0≤a∧a≤10000)(n:Nat):(0≤q1f (soX a l m) n∧q1f (soX a l m) n≤q1f (fun j=>m.getD j 0) n)∧0≤q1f (soY a l m t) n∧q1f (soY a l m t) n≤q1f (fun j=>t.getD j 0) n:=
  ⟨⟨q1j n fun j _=>(q0e F ha j).1,q1h n fun j _=>(q0e F ha j).2⟩,q1j n fun j _=>(q0f F ha j).1.1,q1h n fun j _=>(q0f F ha j).1.2⟩
theorem q0d (F:StF r l m t b){a:Int}(ha:0≤a∧a≤10000):StF r l (soS a l (m,t)).1.1 (soS a l (m,t)).1.2 b∧Led (m,t) (soS a l (m,t)).1 (soS a l (m,t)).2:=by
  have L:=F.len; have ml:=F.ml; have tl:=F.tl
  have p:=q0g F ha l.length
  have ms:=F.msum; have ts:=F.tle
  have e1:isum (tab l.length (fun j=>m.getD j 0 - soX a l m j))=isum m - q1f (soX a l m) l.length:=by rw [qpw,q1k,qpv m,ml]
  have e2:isum (tab l.length (fun j=>t.getD j 0 - soY a l m t j))=isum t - q1f (soY a l m t) l.length:=by rw [qpw,q1k,qpv t,tl]
  have q1:=qpv m; have q2:=qpv t
  rw [ml] at q1; rw [tl] at q2
  refine ⟨F.mk' (q1r _ _) (q1r _ _) (fun i hi=> ?_) (by show isum (tab l.length (fun j=>m.getD j 0 - soX a l m j))≤10000000; omega),⟨?_,?_,⟨Int.le_refl _,by show (0:Int)≤_; omega⟩,⟨p.1.1,by show q1f (soX a l m) _≤_; omega⟩,⟨Int.le_refl _,by show (0:Int)≤_; omega⟩,⟨p.2.1,by show q1f (soY a l m t) _≤_; omega⟩⟩⟩
  · have a1:=F.at i; have a2:=q0e F ha i; have a3:=q0f F ha i
    show 0≤(tab l.length (fun j=>m.getD j 0 - soX a l m j)).getD i 0∧0≤(tab l.length (fun j=>t.getD j 0 - soY a l m t j)).getD i 0∧(tab l.length (fun j=>t.getD j 0 - soY a l m t j)).getD i 0≤1000*(tab l.length (fun j=>m.getD j 0 - soX a l m j)).getD i 0
    rw [q1q hi,q1q hi]; omega
  · show isum (tab l.length (fun j=>m.getD j 0 - soX a l m j))=isum m+0 - q1f (soX a l m) l.length; omega
  · show isum (tab l.length (fun j=>t.getD j 0 - soY a l m t j))=isum t+0 - q1f (soY a l m t) l.length; omega
theorem qij (F:StF r l m t b){a:Int}(ha:0≤a∧a≤1000)(j:Nat):0≤deX a t j∧deX a t j≤t.getD j 0:=by
  have a1:=F.at j
  unfold deX
  have h1:=Int.mul_nonneg a1.2.2.1 ha.1
  have h2:t.getD j 0*a≤t.getD j 0*1000:=Int.mul_le_mul_of_nonneg_left ha.2 a1.2.2.1
  omega
theorem qii (F:StF r l m t b){a:Int}(ha:0≤a∧a≤1000):StF r l (deS a l (m,t)).1.1 (deS a l (m,t)).1.2 b∧Led (m,t) (deS a l (m,t)).1 (deS a l (m,t)).2:=by
  have L:=F.len; have ml:=F.ml; have tl:=F.tl
  have p1:=q1j l.length fun j _=>(qij F ha j).1
  have p2:=q1h l.length fun j _=>(qij F ha j).2
  have ts:=F.tle
  have e2:isum (tab l.length (fun j=>t.getD j 0 - deX a t j))=isum t - q1f (deX a t) l.length:=by rw [qpw,q1k,qpv t,tl]
  have q2:=qpv t
  rw [tl] at q2
  refine ⟨F.mk' ml (q1r _ _) (fun i hi=> ?_) F.sum,⟨?_,?_,⟨Int.le_refl _,by show (0:Int)≤_; omega⟩,⟨Int.le_refl _,by show (0:Int)≤_; omega⟩,⟨Int.le_refl _,by show (0:Int)≤_; omega⟩,⟨p1,by show q1f (deX a t) _≤_; omega⟩⟩⟩
  · have a1:=F.at i; have a2:=qij F ha i
    show 0≤m.getD i 0∧0≤(tab l.length (fun j=>t.getD j 0 - deX a t j)).getD i 0∧(tab l.length (fun j=>t.getD j 0 - deX a t j)).getD i 0≤1000*m.getD i 0
    rw [q1q hi]; omega
  · show isum m=isum m+0 - 0; omega
  · show isum (tab l.length (fun j=>t.getD j 0 - deX a t j))=isum t+0 - q1f (deX a t) l.length; omega
end
def tick (l:List Cell)(b:List Int)(i:Nat)(s:S2):S2:=(tab l.length (stM (i:Int) l s.1 b),tab l.length (stT (i:Int) l s.1 s.2 b))
def q13 (l:List Cell)(b:List Int):Nat→Nat→S2→S2
  | 0,i,s=>s
  | n+1,i,s=>q13 l b n (i+1) (tick l b i s)
theorem q14 {r:Int}{l:List Cell}{b:List Int} : ∀ (n i:Nat)(s:S2),StF r l s.1 s.2 b→StF r l (q13 l b n i s).1 (q13 l b n i s).2 b∧isum (q13 l b n i s).1=isum s.1∧isum (q13 l b n i s).2=isum s.2
  | 0,i,s,F=>⟨F,rfl,rfl⟩
  | n+1,i,s,F=>by
    have h:=q14 n (i+1) (tick l b i s) (q04 F i)
    exact ⟨h.1,h.2.1.trans (q07 F i),h.2.2.trans (q08 F i)⟩
end Go.Proofs.YtjfjniebmdafeaaGreatDoor
end
section
namespace Go.Proofs.YtjfjniebmdafeaaGreatDoor
open Go.Ev
structure StV (r:Int) (s:S3) (b:List Int) (M T:Int):Prop where
  u:StU r s b
  m:isum s.2.1=M
  t:isum s.2.2=T
theorem rf_V {r:Int}{s:S3}{b:List Int}{M T:Int}(V:StV r s b M T){i:Nat}(hi:i<s.1.length)(hl:qsj s.1 i<4):StV r (rfS s i) b M T:=by
  have ml:=V.u.ml; have tl:=V.u.tl
  exact ⟨rf_U V.u hi hl,by show isum (rfM s.2.1 i)=M; rw [qxk (by omega) (V.u.at i).1]; exact V.m,by show isum (rfT s.2.2 s.2.1 i)=T; rw [qxm (by omega)]; exact V.t⟩
theorem cm_V {r:Int}{s:S3}{b:List Int}{M T:Int}(V:StV r s b M T){i:Nat}(hi:i+1<s.1.length)(hs:sib (s.1.getD i zz3) (s.1.getD (i+1) zz3)=true):StV r (cmS s i) b M T:=by
  have ml:=V.u.ml; have tl:=V.u.tl
  exact ⟨cm_U V.u hi hs,by show isum (cmM s.2.1 i)=M; rw [qh7 (by omega)]; exact V.m,by show isum (cmM s.2.2 i)=T; rw [qh7 (by omega)]; exact V.t⟩
theorem qs1 {r:Int}{b:List Int}{M T:Int} : ∀ (n:Nat)(s:S3),StV r s b M T→129≤n+s.1.length→StV r (lvS n s) b M T
  | 0,s,V,hn=>V
  | n+1,s,V,hn=>by
    unfold lvS
    by_cases g:unb s.1<0
    · rw [if_pos g]; exact V
    · rw [if_neg g]
      obtain ⟨j,e,h1,h2⟩:=q2h (by omega:0≤unb s.1)
      have c:=qia V.u.mesh h1 h2
      rw [e,Int.toNat_natCast]
      exact qs1 n _ (rf_V V c.1 c.2) (by show 129≤n+(q0q s.1 _).length; rw [q0r c.1]; omega)
theorem q0i {r:Int}{b:List Int}{M T:Int}(w:List Int)(l0:List Cell)(hw: ∀ j,w.getD j 0=1→qsj l0 j<4): ∀ (n:Nat)(s:S3),StV r s b M T→n≤s.1.length→(∀ j,j<n→s.1.getD j zz3=l0.getD j zz3)→StV r (spS w n s) b M T
  | 0,s,V,hn,he=>V
  | n+1,s,V,hn,he=>by
    unfold spS
    by_cases g:w.getD n 0=1
    · rw [if_pos g]
      have hl:qsj s.1 n<4:=by have:=hw n g; unfold qsj at*; rw [he n (by omega)]; exact this
      exact q0i w l0 hw n _ (rf_V V (by omega) hl) (by show n≤(q0q s.1 n).length; rw [q0r (by omega)]; omega) fun j hj=>by
        show (q0q s.1 n).getD j zz3=_
        rw [q0s (by omega) hj]; exact he j (by omega)
    · rw [if_neg g]
      exact q0i w l0 hw n s V (by omega) fun j hj=>he j (by omega)
theorem qvf {r:Int}{b:List Int}{M T:Int}(P:Cell→Bool): ∀ (n i:Nat)(s:S3),StV r s b M T→StV r (mgS P n i s) b M T
  | 0,i,s,V=>V
  | n+1,i,s,V=>by
    unfold mgS
    by_cases g:i+1<s.1.length
    · rw [if_pos g]
      by_cases h:(P (s.1.getD i zz3)&&(P (s.1.getD (i+1) zz3)&&mayC s.1 i))=true
      · rw [if_pos h]
        simp only [Bool.and_eq_true,mayC] at h
        exact qvf P n (i+1) _ (cm_V V g h.2.2.1)
      · rw [if_neg h]; exact qvf P n (i+1) s V
    · rw [if_neg g]; exact V
def ada (hi lo:Int)(b:List Int)(s:S3):S3:=adS (tab s.1.length (wsh s.1 s.2.1 b hi lo)) s
theorem qa5 {r:Int}{s:S3}{b:List Int}(F:StF r s.1 s.2.1 s.2.2 b)(hi lo:Int):StF r (ada hi lo b s).1 (ada hi lo b s).2.1 (ada hi lo b s).2.2 b∧isum (ada hi lo b s).2.1=isum s.2.1∧isum (ada hi lo b s).2.2=isum s.2.2:=by
  have V:=q0i (M:=isum s.2.1) (T:=isum s.2.2) (tab s.1.length (wsh s.1 s.2.1 b hi lo)) s.1 q28 s.1.length s ⟨F.toU,rfl,rfl⟩ (Nat.le_refl _) (fun j hj=>rfl)
  have W:=qs1 128 _ V (by have:=V.u.len; omega)
  have X:=qvf (Pw (tab s.1.length (wsh s.1 s.2.1 b hi lo)) s.1) 128 0 _ W
  exact ⟨ad_U F hi lo,X.m,X.t⟩
def flow (p:Pl)(l:List Cell)(b:List Int)(s:S2):S2×Ld:=
  let s1:=boS p.bi p.bs p.bo s
  let s2:=raS p.rain l s1.1
  let s3:=soS p.loss l s2.1
  let s4:=deS p.dec l s3.1
  (q13 l b 16 0 s4.1,((s1.2.add s2.2).add s3.2).add s4.2)
def mac (p:Pl)(b:List Int)(k:Int)(s:S3):S3×Ld:=
  let x:=flow p s.1 b s.2
  (if 0<p.every∧(k+1) % p.every=0 then ada p.high p.low b (s.1,x.1) else (s.1,x.1),x.2)
structure PlF (p:Pl):Prop where
  bi:0≤p.bi∧p.bi≤10000
  bs:0≤p.bs∧p.bs≤1000
  bo:0≤p.bo∧p.bo≤250
  rain:0≤p.rain∧p.rain≤10000
  loss:0≤p.loss∧p.loss≤10000
  dec:0≤p.dec∧p.dec≤1000
  high:0≤p.high∧p.high≤1000000
  low:0≤p.low∧p.low≤1000000
  every:0≤p.every∧p.every≤100
structure Led4 (s s' :S2) (l:Ld):Prop where
  m:isum s'.1=isum s.1+l.mi - l.mo
  t:isum s'.2=isum s.2+l.ti - l.ou
  mi:0≤l.mi∧l.mi≤40000000
  mo:0≤l.mo∧l.mo≤40000000
  ti:0≤l.ti∧l.ti≤40000000000
  ou:0≤l.ou∧l.ou≤40000000000
theorem Led4.comb {s s1 s2 s3 s4 s5:S2}{l1 l2 l3 l4:Ld}(h1:Led s s1 l1)(h2:Led s1 s2 l2)(h3:Led s2 s3 l3)(h4:Led s3 s4 l4)(e1:isum s5.1=isum s4.1)(e2:isum s5.2=isum s4.2):Led4 s s5 (((l1.add l2).add l3).add l4):=by
  have a1:=h1.m; have a2:=h2.m; have a3:=h3.m; have a4:=h4.m
  have b1:=h1.t; have b2:=h2.t; have b3:=h3.t; have b4:=h4.t
  have c1:=h1.mi; have c2:=h2.mi; have c3:=h3.mi; have c4:=h4.mi
  have d1:=h1.mo; have d2:=h2.mo; have d3:=h3.mo; have d4:=h4.mo
  have f1:=h1.ti; have f2:=h2.ti; have f3:=h3.ti; have f4:=h4.ti
  have g1:=h1.ou; have g2:=h2.ou; have g3:=h3.ou; have g4:=h4.ou
  refine ⟨?_,?_,?_,?_,?_,?_⟩
  · show isum s5.1=isum s.1+(l1.mi+l2.mi+l3.mi+l4.mi) - (l1.mo+l2.mo+l3.mo+l4.mo); omega
  · show isum s5.2=isum s.2+(l1.ti+l2.ti+l3.ti+l4.ti) - (l1.ou+l2.ou+l3.ou+l4.ou); omega
  · show 0≤l1.mi+l2.mi+l3.mi+l4.mi∧l1.mi+l2.mi+l3.mi+l4.mi≤40000000; omega
  · show 0≤l1.mo+l2.mo+l3.mo+l4.mo∧l1.mo+l2.mo+l3.mo+l4.mo≤40000000; omega
  · show 0≤l1.ti+l2.ti+l3.ti+l4.ti∧l1.ti+l2.ti+l3.ti+l4.ti≤40000000000; omega
  · show 0≤l1.ou+l2.ou+l3.ou+l4.ou∧l1.ou+l2.ou+l3.ou+l4.ou≤40000000000; omega
theorem qoh {r:Int}{l:List Cell}{b:List Int}{s:S2}(F:StF r l s.1 s.2 b){p:Pl}(P:PlF p):StF r l (flow p l b s).1.1 (flow p l b s).1.2 b∧Led4 s (flow p l b s).1 (flow p l b s).2:=by
  have h1:=qbx F P.bi P.bs P.bo
  have h2:=qwz h1.1 P.rain
  have h3:=q0d h2.1 P.loss
  have h4:=qii h3.1 P.dec
  have h5:=q14 16 0 _ h4.1
  exact ⟨h5.1,Led4.comb h1.2 h2.2 h3.2 h4.2 h5.2.1 h5.2.2⟩
theorem quu {r:Int}{b:List Int}{s:S3}(F:StF r s.1 s.2.1 s.2.2 b){p:Pl}(P:PlF p)(k:Int):StF r (mac p b k s).1.1 (mac p b k s).1.2.1 (mac p b k s).1.2.2 b∧Led4 s.2 (mac p b k s).1.2 (mac p b k s).2:=by
  have h:=qoh (s:=s.2) F P
  unfold mac
  by_cases g:0<p.every∧(k+1) % p.every=0
  · simp only [if_pos g]
    have a:=qa5 (s:=(s.1,(flow p s.1 b s.2).1)) h.1 p.high p.low
    exact ⟨a.1,⟨a.2.1.trans h.2.m,a.2.2.trans h.2.t,h.2.mi,h.2.mo,h.2.ti,h.2.ou⟩⟩
  · simp only [if_neg g]
    exact h
end Go.Proofs.YtjfjniebmdafeaaGreatDoor
end
section
namespace Go.Proofs.YtjfjniebmdafeaaGreatDoor
open Go.Ev
set_option maxRecDepth 20000
theorem qwl (o:Bool)(d0:D)(l:List D):(D.ptr o (d0::l)).cell 0=d0:=Eq.trans rfl rfl
theorem qu1 {fs:List Nat}{p:Nat}(h:p<fs.length)(j:Nat):j∈fs.take (p+1)↔j∈fs.take p∨j=fs.getD p 0:=by
  rw [List.take_succ_eq_append_getElem h,List.mem_append,List.mem_singleton]
  simp [h]
def Rk (tk:Int)(l:List Cell)(m b:List Int)(fs:List Nat)(j:Nat):Int:=if j∈fs then rgt tk l m b j else 0
def Lk (tk:Int)(l:List Cell)(m b:List Int)(fs:List Nat)(j:Nat):Int:=if 1≤j∧j - 1∈fs then lft tk l m b j else 0
theorem qty (k:Nat)(hk:2000000≤k)(fu:List (Nat×Nat))(a0:Int)(a1z:Bool)(a1:List Cell)(a2z:Bool)(a2:List Int)(a3z:Bool)(a3:List Int)(a4z:Bool)(a4:List Int)(z1 z2 z3 z4 z5:Bool)(r:Int)(l:List Cell)(m t b:List Int)(tk:Int)(F:StF r l m t b)(fs:List Nat)(hf: ∀ i∈fs,i+1<l.length∧qpm tk (qn3 l i)=true)(hfl:(fs.length:Int)≤1000): ∀ (n p:Nat),p≤fs.length→fs.length - p<n→
    lp (k+5) impl_State_move [(.ptr true [(.int .i64 (a0)),(.arr true (a1z) (.r3 (a1))),(.arr true (a2z) (.ints .i64 (a2))),(.arr true (a3z) (.ints .i64 (a3))),(.arr true (a4z) (.ints .i64 (a4)))])] fu 2 (n) (qyr (fs.length:Int) (p:Int) z1 l z2 m z3 t z4 b r false (tab l.length (Rk tk l m b (fs.take p))) false (tab l.length (Lk tk l m b (fs.take p))) z5 (nats fs))=lp (k+5) impl_State_move [(.ptr true [(.int .i64 (a0)),(.arr true (a1z) (.r3 (a1))),(.arr true (a2z) (.ints .i64 (a2))),(.arr true (a3z) (.ints .i64 (a3))),(.arr true (a4z) (.ints .i64 (a4)))])] fu 12 (k+5) (qyp (l.length:Int) 0 z1 l z2 m z3 t z4 b r false (tab l.length (Rk tk l m b fs)) false (tab l.length (Lk tk l m b fs)) false (List.replicate l.length 0) false (List.replicate l.length 0))
  | 0,p,hp,hn=>by omega
  | n+1,p,hp,hn=>by
    have hl:=F.len; have hm:=F.ml
    have nl:=qvm fs
    rw [qq6]
    by_cases h:p<fs.length
    · obtain ⟨h1,h2⟩:=hf _ (qov h 0)
      have ng:=qvl h
      have hz:ff tk l m b (fs.getD p 0)=fl l m b (fs.getD p 0):=by unfold ff qaq; rw [h2,dT h1]; rfl
      have b0:=qof F (fs.getD p 0); have a0' :=F.at (fs.getD p 0); have a1' :=F.at (fs.getD p 0+1)
      have IH:=qty k hk fu a0 a1z a1 a2z a2 a3z a3 a4z a4 z1 z2 z3 z4 z5 r l m t b tk F fs hf hfl n (p+1) (by omega) (by omega)
      have eF:=qeh (k+5 - 5) (by omega) r z1 z2 z3 z4 l m t b F (fs.getD p 0) h1
      rw [show k+5 - 5+5=k+5 by omega] at eF
      by_cases g:0<fl l m b (fs.getD p 0)
      · have q1:tab l.length (fun j=>if j=fs.getD p 0 then fl l m b (fs.getD p 0) else Rk tk l m b (fs.take p) j)=tab l.length (Rk tk l m b (fs.take (p+1))):=q1p fun j hj=>by
          unfold Rk
          simp only [qu1 h]
          by_cases e:j=fs.getD p 0
          · rw [if_pos e,if_pos (.inr e),e]; unfold rgt; rw [hz]; omega
          · rw [if_neg e]; simp only [e,or_false]
        have q2:tab l.length (Lk tk l m b (fs.take p))=tab l.length (Lk tk l m b (fs.take (p+1))):=q1p fun j hj=>by
          unfold Lk
          simp only [qu1 h]
          by_cases e:1≤j∧j - 1=fs.getD p 0
          · have:lft tk l m b j=0:=by unfold lft; rw [if_pos e.1,e.2,hz]; omega
            rw [this]; simp
          · have:(1≤j∧(j - 1∈fs.take p∨j - 1=fs.getD p 0))=(1≤j∧j - 1∈fs.take p):=propext ⟨fun hh=>⟨hh.1,hh.2.resolve_right fun e2=>e ⟨hh.1,e2⟩⟩,fun hh=>⟨hh.1,.inl hh.2⟩⟩
            simp only [this]
        rw [← q1,← q2] at IH
        simp (disch:=omega) only [wk,bit,nI,nl,ng,eF,q1r,q1u,IH]
      · have q1:tab l.length (fun j=>if j=fs.getD p 0+1 then 0 - fl l m b (fs.getD p 0) else Lk tk l m b (fs.take p) j)=tab l.length (Lk tk l m b (fs.take (p+1))):=q1p fun j hj=>by
          unfold Lk
          simp only [qu1 h]
          by_cases e:j=fs.getD p 0+1
          · rw [if_pos e,if_pos ⟨by omega,.inr (by omega)⟩]; unfold lft; rw [if_pos (by omega),show j - 1=fs.getD p 0 by omega,hz]; omega
          · rw [if_neg e]
            have:(1≤j∧(j - 1∈fs.take p∨j - 1=fs.getD p 0))=(1≤j∧j - 1∈fs.take p):=propext ⟨fun hh=>⟨hh.1,hh.2.resolve_right fun e2=>e (by omega)⟩,fun hh=>⟨hh.1,.inl hh.2⟩⟩
            simp only [this]
        have q2:tab l.length (Rk tk l m b (fs.take p))=tab l.length (Rk tk l m b (fs.take (p+1))):=q1p fun j hj=>by
          unfold Rk
          simp only [qu1 h]
          by_cases e:j=fs.getD p 0
          · have:rgt tk l m b j=0:=by unfold rgt; rw [e,hz]; omega
            rw [this]; simp
          · simp only [e,or_false]
        rw [← q1,← q2] at IH
        simp (disch:=omega) only [wk,bit,nI,nl,ng,eF,q1r,q1u,IH]
    · rw [List.take_of_length_le (by omega)]
      simp (disch:=omega) only [wk,bit,nI]
      rw [hm]
def gk (A B:Nat→Int)(k j:Nat):Int:=0 - (if j<k then A j+B j else 0)+(if 1≤j∧j≤k then A (j - 1) else 0)+(if j+1<k then B (j+1) else 0)
theorem qoz (L:Nat)(A B:Nat→Int)(i:Nat):tab L (upd (gk A B i) i (A i) (B i))=tab L (gk A B (i+1)):=q1p fun j hj=>by
  unfold upd
  by_cases g1:1≤i∧j=i - 1
  · obtain ⟨g1,rfl⟩:=g1
    rw [if_pos ⟨g1,rfl⟩]
    unfold gk
    rw [if_pos (show i - 1<i by omega),if_neg (show ¬ (i - 1+1<i) by omega),if_pos (show i - 1<i+1 by omega),if_pos (show i - 1+1<i+1 by omega),show i - 1+1=i by omega]
    have e2:(1≤i - 1∧i - 1≤i)=(1≤i - 1∧i - 1≤i+1):=by rw [eq_iff_iff]; omega
    simp only [e2]; omega
  · rw [if_neg g1]
    by_cases g2:j=i+1
    · subst g2
      rw [if_pos rfl]
      unfold gk
      rw [if_neg (show ¬ (i+1<i) by omega),if_neg (show ¬ (1≤i+1∧i+1≤i) by omega),if_neg (show ¬ (i+1+1<i) by omega),if_neg (show ¬ (i+1<i+1) by omega),if_pos (show 1≤i+1∧i+1≤i+1 by omega),if_neg (show ¬ (i+1+1<i+1) by omega),Nat.add_sub_cancel]; omega
    · rw [if_neg g2]
      by_cases g3:j=i
      · subst g3
        rw [if_pos rfl]
        unfold gk
        rw [if_neg (show ¬ (j<j) by omega),if_neg (show ¬ (j+1<j) by omega),if_pos (show j<j+1 by omega),if_neg (show ¬ (j+1<j+1) by omega)]
        have e2:(1≤j∧j≤j)=(1≤j∧j≤j+1):=by rw [eq_iff_iff]; omega
        simp only [e2]; omega
      · rw [if_neg g3]
        unfold gk
        have e1:(j<i)=(j<i+1):=by rw [eq_iff_iff]; omega
        have e2:(1≤j∧j≤i)=(1≤j∧j≤i+1):=by rw [eq_iff_iff]; omega
        have e3:(j+1<i)=(j+1<i+1):=by rw [eq_iff_iff]; omega
        simp only [e1,e2,e3]
theorem qoy {A B:Nat→Int}{C:Int}(hA: ∀ j,-C≤A j∧A j≤C)(hB: ∀ j,-C≤B j∧B j≤C)(k j:Nat): -(4*C)≤gk A B k j∧gk A B k j≤4*C:=by
  have a:=hA j; have b:=hB j; have c:=hA (j - 1); have d:=hB (j+1)
  unfold gk
  split<;>split<;>split<;>omega
theorem qo0 (L:Nat)(A B:Nat→Int):List.replicate L (0:Int)=tab L (gk A B 0):=by
  rw [q1w]
  refine q1p fun j hj=> ?_
  unfold gk
  rw [if_neg (by omega),if_neg (by omega),if_neg (by omega)]; rfl
def sh (G:Nat→Int)(i u:Nat)(x:Int)(j:Nat):Int:=if j=u then G u+x else if j=i then G i - x else G j
theorem qeu (k:Nat)(hk:2000000≤k)(L:Nat)(G H:Nat→Int)(i u:Nat)(x y:Int)(z z' :Bool)(hi:i<L)(hu:u<L)(hiu:i≠u)(hx:0<x)(hL:(L:Int)≤1000)(hx2:x≤1000000000000000000)(hy: -1000000000000000000≤y∧y≤1000000000000000000)
    (g1: -1000000000000000000≤G i∧G i≤1000000000000000000) (g2: -1000000000000000000≤G u∧G u≤1000000000000000000) (g3: -1000000000000000000≤H i∧H i≤1000000000000000000) (g4: -1000000000000000000≤H u∧H u≤1000000000000000000):
    go (k+1) impl_State_move_1 [.int .i64 (i:Int),.int .i64 (u:Int),.int .i64 x,.int .i64 y,.ptr true [.arr true z (.ints .i64 (tab L G))],.ptr true [.arr true z' (.ints .i64 (tab L H))]]=some [.ptr true [.arr true z (.ints .i64 (tab L (sh G i u x)))],.ptr true [.arr true z' (.ints .i64 (tab L (sh H i u y)))]]:=by
  rw [qkk]
  simp (disch:=omega) only [wk,bit,nI,q1r,q1q,q1u,itT,itF,niF,if_neg]
  rfl
theorem qev (k:Nat)(hk:2000000≤k)(a b x y:Int)(z z' :Bool)(l l' :List Int)(hx:x=0):
    go (k+1) impl_State_move_1 [.int .i64 a,.int .i64 b,.int .i64 x,.int .i64 y,.ptr true [.arr true z (.ints .i64 l)],.ptr true [.arr true z' (.ints .i64 l')]]=some [.ptr true [.arr true z (.ints .i64 l)],.ptr true [.arr true z' (.ints .i64 l')]]:=by
  rw [qkk]
  simp (disch:=omega) only [wk,bit,nI]
theorem qz3 {G:Nat→Int}{i:Nat}{A B:Int}(g:1≤i):sh (sh G i (i+1) A) i (i - 1) B=upd G i A B:=by
  funext j
  unfold sh upd
  by_cases q1:j=i - 1
  · subst q1; simp (disch:=omega) only [itT,true_and,and_true,if_pos,if_neg]
  · by_cases q2:j=i+1
    · subst q2; simp (disch:=omega) only [itT,true_and,and_true,if_pos,if_neg]
    · by_cases q3:j=i
      · subst q3; simp (disch:=omega) only [itT,true_and,and_true,if_pos,if_neg]
      · simp (disch:=omega) only [if_neg]
theorem sh_r {G:Nat→Int}{i:Nat}{A B:Int}(hB:B=0):sh G i (i+1) A=upd G i A B:=by
  funext j
  unfold sh upd
  subst hB
  by_cases q1:1≤i∧j=i - 1
  · obtain ⟨q0,rfl⟩:=q1; simp (disch:=omega) only [itT,true_and,and_true,if_pos,if_neg,Int.add_zero]
  · by_cases q2:j=i+1
    · subst q2; simp (disch:=omega) only [itT,true_and,and_true,if_pos,if_neg]
    · by_cases q3:j=i
      · subst q3; simp (disch:=omega) only [itT,true_and,and_true,if_pos,if_neg,Int.sub_zero]
      · simp (disch:=omega) only [if_neg]
theorem sh_l {G:Nat→Int}{i:Nat}{A B:Int}(g:1≤i)(hA:A=0):sh G i (i - 1) B=upd G i A B:=by
  funext j
  unfold sh upd
  subst hA
  by_cases q1:j=i - 1
  · subst q1; simp (disch:=omega) only [itT,true_and,and_true,if_pos,if_neg]
  · by_cases q2:j=i+1
    · subst q2; simp (disch:=omega) only [itT,true_and,and_true,if_pos,if_neg,Int.add_zero]
    · by_cases q3:j=i
      · subst q3; simp (disch:=omega) only [itT,true_and,and_true,if_pos,if_neg,Int.sub_zero]
      · simp (disch:=omega) only [if_neg]
theorem sh_0 {G:Nat→Int}{i:Nat}{A B:Int}(hA:A=0)(hB:B=0):G=upd G i A B:=by
  funext j
  unfold upd
  subst hA hB
  by_cases q1:1≤i∧j=i - 1
  · simp (disch:=omega) only [itT,true_and,and_true,if_pos,if_neg,Int.add_zero]
  · by_cases q2:j=i+1
    · subst q2; simp (disch:=omega) only [itT,true_and,and_true,if_pos,if_neg,Int.add_zero]
    · by_cases q3:j=i
      · subst q3; simp (disch:=omega) only [itT,true_and,and_true,if_pos,if_neg,Int.sub_zero]
      · simp (disch:=omega) only [if_neg]
theorem rgtB {r:Int}{l:List Cell}{m t b:List Int}(F:StF r l m t b)(tk:Int)(j:Nat):0≤rgt tk l m b j∧rgt tk l m b j≤2500000:=by
  have f1:=qn5 F tk j; have a0:=F.at j
  unfold rgt; omega
theorem lftB {r:Int}{l:List Cell}{m t b:List Int}(F:StF r l m t b)(tk:Int)(j:Nat):0≤lft tk l m b j∧lft tk l m b j≤2500000:=by
  have f1:=qn5 F tk (j - 1); have a0:=F.at (j - 1+1)
  unfold lft
  split<;>omega
set_option maxHeartbeats 1000000 in
theorem qtw (k:Nat)(hk:2000000≤k)(fu:List (Nat×Nat))(a0:Int)(a1z:Bool)(a1:List Cell)(a2z:Bool)(a2:List Int)(a3z:Bool)(a3:List Int)(a4z:Bool)(a4:List Int)(z1 z2 z3 z4:Bool)(r:Int)(l:List Cell)(m t b:List Int)(tk:Int)(F:StF r l m t b): ∀ (n i:Nat),i≤l.length→l.length - i<n→
    lp (k+5) impl_State_move [(.ptr true [(.int .i64 (a0)),(.arr true (a1z) (.r3 (a1))),(.arr true (a2z) (.ints .i64 (a2))),(.arr true (a3z) (.ints .i64 (a3))),(.arr true (a4z) (.ints .i64 (a4)))])] fu 12 (n) (qyp (l.length:Int) (i:Int) z1 l z2 m z3 t z4 b r false (tab l.length (rgt tk l m b)) false (tab l.length (lft tk l m b)) false (tab l.length (gk (rgt tk l m b) (lft tk l m b) i)) false (tab l.length (gk (outA tk l m t b) (outB tk l m t b) i)))=
      lp (k+5) impl_State_move [(.ptr true [(.int .i64 (a0)),(.arr true (a1z) (.r3 (a1))),(.arr true (a2z) (.ints .i64 (a2))),(.arr true (a3z) (.ints .i64 (a3))),(.arr true (a4z) (.ints .i64 (a4)))])] fu 19 (k+5) (qyq (l.length:Int) 0 z1 l z2 m z3 t z4 b r false (tab l.length (gk (rgt tk l m b) (lft tk l m b) l.length)) false (tab l.length (gk (outA tk l m t b) (outB tk l m t b) l.length)))
  | 0,i,hi,hn=>by omega
  | n+1,i,hi,hn=>by
    have hl:=F.len; have hm:=F.ml; have ht:=F.tl
    rw [qq4]
    by_cases h:i<l.length
    · have IH:=qtw k hk fu a0 a1z a1 a2z a2 a3z a3 a4z a4 z1 z2 z3 z4 r l m t b tk F n (i+1) (by omega) (by omega)
      rw [← qoz l.length (rgt tk l m b) (lft tk l m b) i,← qoz l.length (outA tk l m t b) (outB tk l m t b) i] at IH
      have B1: ∀ p j,-10000000≤gk (rgt tk l m b) (lft tk l m b) p j∧gk (rgt tk l m b) (lft tk l m b) p j≤10000000:=fun p j=>qoy (C:=2500000) (fun j=>by have:=rgtB F tk j; omega) (fun j=>by have:=lftB F tk j; omega) p j
      have B2: ∀ p j,-400000000000000000≤gk (outA tk l m t b) (outB tk l m t b) p j∧gk (outA tk l m t b) (outB tk l m t b) p j≤400000000000000000:=fun p j=>qoy (C:=100000000000000000) (fun j=>by have:=qv9 tk l m t b j; omega) (fun j=>qwb tk l m t b j) p j
      have r1:=rgtB F tk i; have r2:=lftB F tk i
      have A:=qv9 tk l m t b i; have B:=qwb tk l m t b i
      have b1:=B1 i i; have b2:=B1 i (i+1); have b3:=B1 i (i - 1); have c1:=B2 i i; have c2:=B2 i (i+1); have c3:=B2 i (i - 1)
      have hA:loA (t.getD i 0) (m.getD i 0) (rgt tk l m b i) (lft tk l m b i)=outA tk l m t b i:=rfl
      have hB:loB (t.getD i 0) (m.getD i 0) (rgt tk l m b i) (lft tk l m b i)=outB tk l m t b i:=rfl
      have hi1:0<rgt tk l m b i→i+1<l.length:=fun g4=>by
        rcases Nat.lt_or_ge (i+1) l.length with q | q
        · exact q
        · unfold rgt at g4; rw [qn4 q] at g4; omega
      have hi0:0<lft tk l m b i→1≤i:=fun g4=>by
        rcases Nat.lt_or_ge 0 i with q | q
        · exact q
        · unfold lft at g4; rw [if_neg (by omega)] at g4; omega
      have zA:rgt tk l m b i=0→outA tk l m t b i=0:=qwa
      have zB:lft tk l m b i=0→outB tk l m t b i=0:=qwc
      by_cases g4:0<rgt tk l m b i
      · have i1:=hi1 g4
        have s1:=qeu (k+5 - 1) (by omega) l.length (gk (rgt tk l m b) (lft tk l m b) i) (gk (outA tk l m t b) (outB tk l m t b) i) i (i+1) (rgt tk l m b i) (outA tk l m t b i) false false h i1 (by omega) g4 (by omega) (by omega) (by omega) (by omega) (by omega) (by omega) (by omega)
        rw [show k+5 - 1+1=k+5 by omega] at s1
        by_cases g5:0<lft tk l m b i
        · have i0:=hi0 g5
          have e1:sh (gk (rgt tk l m b) (lft tk l m b) i) i (i+1) (rgt tk l m b i) i=gk (rgt tk l m b) (lft tk l m b) i i - rgt tk l m b i:=by unfold sh; rw [if_neg (by omega),if_pos rfl]
          have e2:sh (gk (rgt tk l m b) (lft tk l m b) i) i (i+1) (rgt tk l m b i) (i - 1)=gk (rgt tk l m b) (lft tk l m b) i (i - 1):=by unfold sh; rw [if_neg (by omega),if_neg (by omega)]
          have e3:sh (gk (outA tk l m t b) (outB tk l m t b) i) i (i+1) (outA tk l m t b i) i=gk (outA tk l m t b) (outB tk l m t b) i i - outA tk l m t b i:=by unfold sh; rw [if_neg (by omega),if_pos rfl]
          have e4:sh (gk (outA tk l m t b) (outB tk l m t b) i) i (i+1) (outA tk l m t b i) (i - 1)=gk (outA tk l m t b) (outB tk l m t b) i (i - 1):=by unfold sh; rw [if_neg (by omega),if_neg (by omega)]
          have s2:=qeu (k+5 - 1) (by omega) l.length (sh (gk (rgt tk l m b) (lft tk l m b) i) i (i+1) (rgt tk l m b i)) (sh (gk (outA tk l m t b) (outB tk l m t b) i) i (i+1) (outA tk l m t b i)) i (i - 1) (lft tk l m b i) (outB tk l m t b i) false false h (by omega) (by omega) g5 (by omega) (by omega) (by omega) (by omega) (by omega) (by omega) (by omega)
          rw [show k+5 - 1+1=k+5 by omega] at s2
          rw [← qz3 i0,← qz3 i0] at IH
          simp (disch:=omega) only [wk,bit,nI,qhd,q1r,q1q,qwl,qcr,hA,hB,s1,s2]
          exact IH
        · have z0:lft tk l m b i=0:=by omega
          rw [← sh_r z0,← sh_r (zB z0)] at IH
          simp (disch:=omega) only [wk,bit,nI,q1r,q1q,qwl,qcr,hA,hB,s1,qev]
          exact IH
      · have z1' :rgt tk l m b i=0:=by omega
        by_cases g5:0<lft tk l m b i
        · have i0:=hi0 g5
          have s2:=qeu (k+5 - 1) (by omega) l.length (gk (rgt tk l m b) (lft tk l m b) i) (gk (outA tk l m t b) (outB tk l m t b) i) i (i - 1) (lft tk l m b i) (outB tk l m t b i) false false h (by omega) (by omega) g5 (by omega) (by omega) (by omega) (by omega) (by omega) (by omega) (by omega)
          rw [show k+5 - 1+1=k+5 by omega] at s2
          rw [← sh_l i0 z1',← sh_l i0 (zA z1')] at IH
          simp (disch:=omega) only [wk,bit,nI,qhd,q1r,q1q,qwl,qcr,hA,hB,s2,qev]
          exact IH
        · have z0:lft tk l m b i=0:=by omega
          rw [← sh_0 z1' z0,← sh_0 (zA z1') (zB z0)] at IH
          simp (disch:=omega) only [wk,bit,nI,q1r,q1q,qwl,qcr,hA,hB,qev]
          exact IH
    · simp (disch:=omega) only [wk,bit,nI]
      rw [show i=l.length by omega,hm]
end Go.Proofs.YtjfjniebmdafeaaGreatDoor
end
section
namespace Go.Proofs.YtjfjniebmdafeaaGreatDoor
open Go.Ev
set_option maxRecDepth 20000
theorem qow (tk:Int)(l:List Cell)(m b:List Int){j:Nat}(hj:j<l.length):m.getD j 0+gk (rgt tk l m b) (lft tk l m b) l.length j=stM tk l m b j:=by
  have e1:lft tk l m b (j+1)=max 0 (0 - ff tk l m b j):=by unfold lft; rw [if_pos (by omega),Nat.add_sub_cancel]
  have e2:rgt tk l m b j=max 0 (ff tk l m b j):=rfl
  have e3:(if j+1<l.length then lft tk l m b (j+1) else 0)=max 0 (0 - ff tk l m b j):=by
    by_cases g:j+1<l.length
    · rw [if_pos g,e1]
    · rw [if_neg g,qn4 (by omega)]; rfl
  unfold gk stM
  rw [if_pos hj,e3,e2]
  by_cases g:1≤j
  · have e4:lft tk l m b j=max 0 (0 - ff tk l m b (j - 1)):=by unfold lft; rw [if_pos g]
    have e5:rgt tk l m b (j - 1)=max 0 (ff tk l m b (j - 1)):=rfl
    rw [if_pos (by omega),if_pos g,e4,e5]; omega
  · have e4:lft tk l m b j=0:=by unfold lft; rw [if_neg g]
    rw [if_neg (by omega),if_neg g,e4]; omega
theorem qox (tk:Int)(l:List Cell)(m t b:List Int){j:Nat}(hj:j<l.length):t.getD j 0+gk (outA tk l m t b) (outB tk l m t b) l.length j=stT tk l m t b j:=by
  have e3:(if j+1<l.length then outB tk l m t b (j+1) else 0)=outB tk l m t b (j+1):=by
    by_cases g:j+1<l.length
    · rw [if_pos g]
    · rw [if_neg g,qwc]
      unfold lft
      rw [if_pos (by omega),Nat.add_sub_cancel,qn4 (by omega)]; rfl
  unfold gk stT
  rw [if_pos hj,e3]
  by_cases g:1≤j
  · rw [if_pos (by omega),if_pos g]; omega
  · rw [if_neg (by omega),if_neg g]; omega
theorem qtx (k:Nat)(hk:2000000≤k)(fu:List (Nat×Nat))(a0:Int)(a1z:Bool)(a1:List Cell)(a2z:Bool)(a2:List Int)(a3z:Bool)(a3:List Int)(a4z:Bool)(a4:List Int)(z1 z2 z3 z4:Bool)(r:Int)(l:List Cell)(m t b:List Int)(tk:Int)(F:StF r l m t b): ∀ (n i:Nat),i≤l.length→l.length - i<n→
    lp (k+5) impl_State_move [(.ptr true [(.int .i64 (a0)),(.arr true (a1z) (.r3 (a1))),(.arr true (a2z) (.ints .i64 (a2))),(.arr true (a3z) (.ints .i64 (a3))),(.arr true (a4z) (.ints .i64 (a4)))])] fu 19 (n) (qyq (l.length:Int) (i:Int) z1 l z2 (tab l.length (fun j=>if j<i then stM tk l m b j else m.getD j 0)) z3 (tab l.length (fun j=>if j<i then stT tk l m t b j else t.getD j 0)) z4 b r false (tab l.length (gk (rgt tk l m b) (lft tk l m b) l.length)) false (tab l.length (gk (outA tk l m t b) (outB tk l m t b) l.length)))=
      some [.ptr true [.int .i64 (r),.arr true (z1) (.r3 (l)),.arr true (z2) (.ints .i64 (tab l.length (stM tk l m b))),.arr true (z3) (.ints .i64 (tab l.length (stT tk l m t b))),.arr true (z4) (.ints .i64 (b))]]
  | 0,i,hi,hn=>by omega
  | n+1,i,hi,hn=>by
    have hl:=F.len
    rw [qq5]
    by_cases h:i<l.length
    · have IH:=qtx k hk fu a0 a1z a1 a2z a2 a3z a3 a4z a4 z1 z2 z3 z4 r l m t b tk F n (i+1) (by omega) (by omega)
      have q1:tab l.length (fun j=>if j=i then stM tk l m b i else if j<i then stM tk l m b j else m.getD j 0)=tab l.length (fun j=>if j<i+1 then stM tk l m b j else m.getD j 0):=q1p fun j hj=>by
        by_cases e:j=i
        · subst e; rw [if_pos rfl,if_pos (by omega)]
        · rw [if_neg e]
          by_cases e2:j<i
          · rw [if_pos e2,if_pos (by omega)]
          · rw [if_neg e2,if_neg (by omega)]
      have q2:tab l.length (fun j=>if j=i then stT tk l m t b i else if j<i then stT tk l m t b j else t.getD j 0)=tab l.length (fun j=>if j<i+1 then stT tk l m t b j else t.getD j 0):=q1p fun j hj=>by
        by_cases e:j=i
        · subst e; rw [if_pos rfl,if_pos (by omega)]
        · rw [if_neg e]
          by_cases e2:j<i
          · rw [if_pos e2,if_pos (by omega)]
          · rw [if_neg e2,if_neg (by omega)]
      rw [← q1,← q2] at IH
      have B1:=qoy (A:=rgt tk l m b) (B:=lft tk l m b) (C:=2500000) (fun j=>by have:=rgtB F tk j; omega) (fun j=>by have:=lftB F tk j; omega) l.length i
      have B2:=qoy (A:=outA tk l m t b) (B:=outB tk l m t b) (C:=100000000000000000) (fun j=>by have:=qv9 tk l m t b j; omega) (fun j=>qwb tk l m t b j) l.length i
      have a:=F.at i
      have v1:(if i<i then stM tk l m b i else m.getD i 0)=m.getD i 0:=if_neg (by omega)
      have v2:(if i<i then stT tk l m t b i else t.getD i 0)=t.getD i 0:=if_neg (by omega)
      have e1:=qow tk l m b h
      have e2:=qox tk l m t b h
      simp (disch:=omega) only [wk,bit,nI,q1r,q1q,q1u,v1,v2,e1,e2]
      exact IH
    · simp (disch:=omega) only [wk,bit,nI,q1r]
      have q1:tab l.length (fun j=>if j<i then stM tk l m b j else m.getD j 0)=tab l.length (stM tk l m b):=q1p fun j hj=>by rw [if_pos (by omega)]
      have q2:tab l.length (fun j=>if j<i then stT tk l m t b j else t.getD j 0)=tab l.length (stT tk l m t b):=q1p fun j hj=>by rw [if_pos (by omega)]
      rw [q1,q2]
theorem qa4 {tk:Int}{l:List Cell} :(∀ i∈acts tk l,i+1<l.length∧qpm tk (qn3 l i)=true)∧(acts tk l).length≤l.length - 1:=by
  refine ⟨fun i hi=> ?_,qas tk l _ _⟩
  unfold acts at hi
  rw [qat] at hi
  exact ⟨by omega,hi.2⟩
theorem qn6 {tk:Int}{l:List Cell}{m b:List Int}{i:Nat}(h:i ∉ acts tk l):ff tk l m b i=0:=by
  unfold acts at h
  rw [qat] at h
  unfold ff qaq
  by_cases g:i+1<l.length
  · have:qpm tk (qn3 l i)=false:=by
      rw [← Bool.not_eq_true]
      exact fun e=>h ⟨⟨by omega,by omega⟩,e⟩
    rw [this]; simp
  · rw [dF g]; rfl
theorem qai (tk:Int)(l:List Cell)(m b:List Int):tab l.length (Rk tk l m b (acts tk l))=tab l.length (rgt tk l m b):=q1p fun j hj=>by
  unfold Rk
  by_cases g:j∈acts tk l
  · rw [if_pos g]
  · rw [if_neg g]; unfold rgt; rw [qn6 g]; rfl
theorem qac (tk:Int)(l:List Cell)(m b:List Int):tab l.length (Lk tk l m b (acts tk l))=tab l.length (lft tk l m b):=q1p fun j hj=>by
  unfold Lk
  by_cases g:1≤j∧j - 1∈acts tk l
  · rw [if_pos g]
  · rw [if_neg g]; unfold lft
    by_cases g2:1≤j
    · rw [if_pos g2,qn6 (fun e=>g ⟨g2,e⟩)]; rfl
    · rw [if_neg g2]
theorem qaj (tk:Int)(l:List Cell)(m b:List Int):List.replicate l.length (0:Int)=tab l.length (Rk tk l m b []):=by
  rw [q1w]
  exact q1p fun j hj=>by unfold Rk; rw [if_neg (by simp)]
theorem qad (tk:Int)(l:List Cell)(m b:List Int):List.replicate l.length (0:Int)=tab l.length (Lk tk l m b []):=by
  rw [q1w]
  exact q1p fun j hj=>by unfold Lk; rw [if_neg (by simp)]
theorem qd8 (k:Nat)(hk:2000000≤k)(z1 z2 z3 z4 z5:Bool)(r:Int)(l:List Cell)(m t b:List Int)(tk:Int)(F:StF r l m t b):
    go (k+6) impl_State_move [.ptr true [.int .i64 (r),.arr true (z1) (.r3 (l)),.arr true (z2) (.ints .i64 (m)),.arr true (z3) (.ints .i64 (t)),.arr true (z4) (.ints .i64 (b))],.arr false z5 (.ints .i64 (nats (acts tk l)))]=some [.ptr true [.int .i64 (r),.arr true (z1) (.r3 (l)),.arr true (z2) (.ints .i64 (tab l.length (stM tk l m b))),.arr true (z3) (.ints .i64 (tab l.length (stT tk l m t b))),.arr true (z4) (.ints .i64 (b))]]:=by
  rw [qkj]
  have hl:=F.len; have hm:=F.ml; have ht:=F.tl
  have ao:=qa4 (tk:=tk) (l:=l)
  have e1:=qty k hk [] r z1 l z2 m z3 t z4 b z1 z2 z3 z4 z5 r l m t b tk F (acts tk l) ao.1 (by omega) (k+5) 0 (by omega) (by omega)
  have e2:=qtw k hk [] r z1 l z2 m z3 t z4 b z1 z2 z3 z4 r l m t b tk F (k+5) 0 (by omega) (by omega)
  have e3:=qtx k hk [] r z1 l z2 m z3 t z4 b z1 z2 z3 z4 r l m t b tk F (k+5) 0 (by omega) (by omega)
  rw [List.take_zero,← qaj,← qad,qai,qac] at e1
  rw [← qo0,← qo0] at e2
  have q1:tab l.length (fun j=>if j<0 then stM tk l m b j else m.getD j 0)=m:=by
    refine Eq.trans (q1p fun j hj=> ?_) (hm ▸ (q1t m).symm)
    rw [if_neg (by omega)]
  have q2:tab l.length (fun j=>if j<0 then stT tk l m t b j else t.getD j 0)=t:=by
    refine Eq.trans (q1p fun j hj=> ?_) (ht ▸ (q1t t).symm)
    rw [if_neg (by omega)]
  rw [q1,q2] at e3
  have nl:=qvm (acts tk l)
  simp (disch:=omega) only [wk,bit,nI,nl,hm]
  exact e1.trans (e2.trans e3)
end Go.Proofs.YtjfjniebmdafeaaGreatDoor
end
