/- What the program's functions compute, and plain facts of it (part 3). No condition beyond those that each theorem states. -/
import Derived.Test.YtjfjniebmdafeaaGreatDoorQR2
set_option linter.unusedVariables false
set_option linter.unusedSimpArgs false
section
namespace Go.Proofs.YtjfjniebmdafeaaGreatDoor
open Go.Ev
def tab (L:Nat)(g:Nat→Int):List Int:=(List.range L).map g
theorem q20 (L:Nat)(g:Nat→Int):(tab L g).length=L:=by simp [tab]
theorem q2z {L:Nat}{g:Nat→Int}{i:Nat}(h:i<L):(tab L g).getD i 0=g i:=by simp [tab,h]
theorem q2y {L:Nat}{g g' :Nat→Int}(h: ∀ j,j<L→g j=g' j):tab L g=tab L g' :=by
  unfold tab
  exact List.map_congr_left fun j hj=>h j (by simpa using hj)
theorem q23 {L:Nat}{g:Nat→Int}(i:Nat)(v:Int):(tab L g).set i v=tab L (fun j=>if j=i then v else g j):=by
  apply List.ext_getElem
  · simp [tab]
  · intro j h1 h2
    simp only [tab,List.getElem_set,List.getElem_map,List.getElem_range]
    by_cases h:i=j
    · simp [h]
    · rw [if_neg h,if_neg (fun e=>h e.symm)]
theorem q22 (l:List Int):l=tab l.length (fun j=>l.getD j 0):=by
  apply List.ext_getElem
  · simp [tab]
  · intro j h1 h2
    simp [tab,h1]
theorem q25 (L:Nat):List.replicate L (0:Int)=tab L (fun _=>0):=by
  apply List.ext_getElem
  · simp [tab]
  · intro j h1 h2; simp [tab]
theorem q3a {x y B:Int}(hy:0<y)(h: -B≤x)(h' :x≤B): -B≤Int.tdiv x y∧Int.tdiv x y≤B:=by
  by_cases hx:0≤x
  · rw [Int.tdiv_eq_ediv_of_nonneg hx]
    have h1:=Int.ediv_nonneg hx (by omega:0≤y)
    have h2:=Int.ediv_le_self y hx
    omega
  · obtain ⟨z,rfl⟩: ∃ z,x= -z:=⟨-x,by omega⟩
    rw [Int.neg_tdiv,Int.tdiv_eq_ediv_of_nonneg (by omega:0≤z)]
    have h1:=Int.ediv_nonneg (by omega:0≤z) (by omega:0≤y)
    have h2:=Int.ediv_le_self y (by omega:0≤z)
    omega
theorem qwh {x w A:Int}(hx: -A≤x)(hx' :x≤A)(hw:0≤w)(hw' :w≤16): -(16*A)≤x*w∧x*w≤16*A:=by
  have hA:0≤A:=by omega
  have h1:x*w≤A*w:=Int.mul_le_mul_of_nonneg_right hx' hw
  have h2:A*w≤A*16:=Int.mul_le_mul_of_nonneg_left hw' hA
  have h3:(-A)*w≤x*w:=Int.mul_le_mul_of_nonneg_right hx hw
  have h4:(-A)*w= -(A*w):=Int.neg_mul A w
  omega
def q1c (t p m:Int):Int:=cond (inR m 1 10000000&&(inR p 0 m&&inR t 0 (1000*m))) (Int.tdiv (t*p) m) 0
theorem q1g {t p m:Int}(hm:inR m 1 10000000=true)(hp:inR p 0 m=true)(ht:inR t 0 (1000*m)=true):0≤t*p∧t*p≤100000000000000000:=by
  rw [qp3] at*
  refine ⟨Int.mul_nonneg (by omega) (by omega),?_⟩
  calc t*p≤10000000000*p:=Int.mul_le_mul_of_nonneg_right (by omega) (by omega)
    _≤10000000000*10000000:=Int.mul_le_mul_of_nonneg_left (by omega) (by omega)
theorem q1e (t p m:Int):0≤q1c t p m∧q1c t p m≤100000000000000000:=by
  unfold q1c
  cases hm:inR m 1 10000000
  · simp
  cases hp:inR p 0 m
  · simp
  cases ht:inR t 0 (1000*m)
  · simp
  have:=q1g hm hp ht
  have hm' :=qp3.1 hm
  simp only [Bool.and_self,qik]
  rw [Int.tdiv_eq_ediv_of_nonneg this.1]
  exact ⟨Int.ediv_nonneg this.1 (by omega),Int.le_trans (Int.ediv_le_self m this.1) this.2⟩
theorem q1f {t p m:Int}(ht:0≤t)(hp:0≤p)(h:t≤1000*m):q1c t p m≤1000*p:=by
  unfold q1c
  cases hh:(inR m 1 10000000&&(inR p 0 m&&inR t 0 (1000*m)))
  · simp only [qii]; omega
  · simp only [Bool.and_eq_true,qp3] at hh
    simp only [qik]
    rw [Int.tdiv_eq_ediv_of_nonneg (Int.mul_nonneg ht hp)]
    apply Int.ediv_le_of_le_mul (by omega)
    calc t*p≤(1000*m)*p:=Int.mul_le_mul_of_nonneg_right h hp
      _=1000*p*m:=by rw [Int.mul_assoc,Int.mul_assoc,Int.mul_comm m p]
def loOk (t m r l:Int):Bool:=inR m 1 10000000&&(inR t 0 (1000*m)&&(inR r 0 m&&inR l 0 (m - r)))
def loA (t m r l:Int):Int:=cond (loOk t m r l) (q1c t r m) 0
def loB (t m r l:Int):Int:=cond (loOk t m r l) (q1c t (r+l) m - q1c t r m) 0
def quo (sa sb la lb:Int):Int:=Int.tdiv ((sa - sb)*q33 (max lb la)) (32*(q33 la+q33 lb))
def qxh (sa sb ma mb la lb:Int):Int:=max (0 - mb / 4) (min (ma / 4) (quo sa sb la lb))
def fl (l:List Cell)(m b:List Int)(i:Nat):Int:=qxh (surf l m b i) (surf l m b (i+1)) (m.getD i 0) (m.getD (i+1) 0) (qte l i) (qte l (i+1))
def ff (t:Int)(l:List Cell)(m b:List Int)(i:Nat):Int:=cond (qao t l i) (fl l m b i) 0
theorem qot {t:Int}{l:List Cell}{m b:List Int}{i:Nat}(h:l.length≤i+1):ff t l m b i=0:=by
  unfold ff qao
  rw [dF (p:=i+1<l.length) (by omega)]; rfl
theorem qo4 {r:Int}{l:List Cell}{m t b:List Int}(F:StF r l m t b)(i:Nat):0 - m.getD (i+1) 0 / 4≤fl l m b i∧fl l m b i≤m.getD i 0 / 4:=by
  have h1:=F.at i; have h2:=F.at (i+1)
  unfold fl qxh
  omega
theorem qou {r:Int}{l:List Cell}{m t b:List Int}(F:StF r l m t b)(tk:Int)(i:Nat):0 - m.getD (i+1) 0 / 4≤ff tk l m b i∧ff tk l m b i≤m.getD i 0 / 4:=by
  have h1:=F.at i; have h2:=F.at (i+1); have h3:=qo4 F i
  unfold ff
  cases qao tk l i
  · simp only [qii]; omega
  · simp only [qik]; omega
def rgt (tk:Int)(l:List Cell)(m b:List Int)(i:Nat):Int:=max 0 (ff tk l m b i)
def lft (tk:Int)(l:List Cell)(m b:List Int)(i:Nat):Int:=if 1≤i then max 0 (0 - ff tk l m b (i - 1)) else 0
def outA (tk:Int)(l:List Cell)(m t b:List Int)(i:Nat):Int:=loA (t.getD i 0) (m.getD i 0) (rgt tk l m b i) (lft tk l m b i)
def outB (tk:Int)(l:List Cell)(m t b:List Int)(i:Nat):Int:=loB (t.getD i 0) (m.getD i 0) (rgt tk l m b i) (lft tk l m b i)
def stM (tk:Int)(l:List Cell)(m b:List Int)(j:Nat):Int:=m.getD j 0 - ff tk l m b j+(if 1≤j then ff tk l m b (j - 1) else 0)
def stT (tk:Int)(l:List Cell)(m t b:List Int)(j:Nat):Int:=t.getD j 0 - outA tk l m t b j - outB tk l m t b j+(if 1≤j then outA tk l m t b (j - 1) else 0)+outB tk l m t b (j+1)
theorem qto (t m l:Int):loA t m 0 l=0:=by
  unfold loA q1c
  cases loOk t m 0 l
  · rfl
  · simp
theorem qtp (t m r:Int):loB t m r 0=0:=by
  unfold loB
  cases loOk t m r 0
  · rfl
  · simp
theorem qxb {tk:Int}{l:List Cell}{m t b:List Int}{i:Nat}(h:rgt tk l m b i=0):outA tk l m t b i=0:=by unfold outA; rw [h,qto]
theorem qxd {tk:Int}{l:List Cell}{m t b:List Int}{i:Nat}(h:lft tk l m b i=0):outB tk l m t b i=0:=by unfold outB; rw [h,qtp]
theorem qxa (tk:Int)(l:List Cell)(m t b:List Int)(i:Nat):0≤outA tk l m t b i∧outA tk l m t b i≤100000000000000000:=by
  unfold outA loA
  cases loOk (t.getD i 0) (m.getD i 0) (rgt tk l m b i) (lft tk l m b i)
  · simp
  · exact q1e _ _ _
theorem qxc (tk:Int)(l:List Cell)(m t b:List Int)(i:Nat): -100000000000000000≤outB tk l m t b i∧outB tk l m t b i≤100000000000000000:=by
  unfold outB loB
  cases loOk (t.getD i 0) (m.getD i 0) (rgt tk l m b i) (lft tk l m b i)
  · simp
  · have h1:=q1e (t.getD i 0) (rgt tk l m b i) (m.getD i 0)
    have h2:=q1e (t.getD i 0) (rgt tk l m b i+lft tk l m b i) (m.getD i 0)
    simp only [qik]; omega
def Tk (tk:Int)(l:List Cell)(m t b:List Int)(k j:Nat):Int:=t.getD j 0 - (if j<k then outA tk l m t b j+outB tk l m t b j else 0)+(if 1≤j∧j≤k then outA tk l m t b (j - 1) else 0)+(if j+1<k then outB tk l m t b (j+1) else 0)
def upd (G:Nat→Int)(i:Nat)(A B:Int)(j:Nat):Int:=if 1≤i∧j=i - 1 then G j+B else if j=i+1 then G j+A else if j=i then G j - A - B else G j
theorem q3t {G:Nat→Int}{i:Nat}{A B:Int}(g:1≤i):(fun j=>if j=i - 1 then G (i - 1)+B else if j=i+1 then G (i+1)+A else if j=i then G i - A - B else G j)=upd G i A B:=by
  funext j
  unfold upd
  by_cases q1:j=i - 1
  · rw [if_pos q1,if_pos ⟨g,q1⟩,q1]
  · rw [if_neg q1,if_neg (show ¬ (1≤i∧j=i - 1) from fun hh=>q1 hh.2)]
    by_cases q2:j=i+1
    · rw [if_pos q2,if_pos q2,q2]
    · rw [if_neg q2,if_neg q2]
      by_cases q3:j=i
      · rw [if_pos q3,if_pos q3,q3]
      · rw [if_neg q3,if_neg q3]
theorem q3s {G:Nat→Int}{i:Nat}{A B:Int}(hB:B=0):(fun j=>if j=i+1 then G (i+1)+A else if j=i then G i - A - B else G j)=upd G i A B:=by
  funext j
  unfold upd
  by_cases q1:1≤i∧j=i - 1
  · rw [if_pos q1,if_neg (by omega),if_neg (by omega),hB]; omega
  · rw [if_neg q1]
    by_cases q2:j=i+1
    · rw [if_pos q2,if_pos q2,q2]
    · rw [if_neg q2,if_neg q2]
      by_cases q3:j=i
      · rw [if_pos q3,if_pos q3,q3]
      · rw [if_neg q3,if_neg q3]
theorem q3r {G:Nat→Int}{i:Nat}{A B:Int}(g:1≤i)(hA:A=0):(fun j=>if j=i - 1 then G (i - 1)+B else if j=i then G i - A - B else G j)=upd G i A B:=by
  funext j
  unfold upd
  by_cases q1:j=i - 1
  · rw [if_pos q1,if_pos ⟨g,q1⟩,q1]
  · rw [if_neg q1,if_neg (show ¬ (1≤i∧j=i - 1) from fun hh=>q1 hh.2)]
    by_cases q2:j=i+1
    · rw [if_pos q2,if_neg (by omega),hA]; omega
    · rw [if_neg q2]
      by_cases q3:j=i
      · rw [if_pos q3,if_pos q3,q3]
      · rw [if_neg q3,if_neg q3]
theorem q3q {G:Nat→Int}{i:Nat}{A B:Int}(hA:A=0)(hB:B=0):(fun j=>if j=i then G i - A - B else G j)=upd G i A B:=by
  funext j
  unfold upd
  by_cases q1:1≤i∧j=i - 1
  · rw [if_pos q1,if_neg (by omega),hB]; omega
  · rw [if_neg q1]
    by_cases q2:j=i+1
    · rw [if_pos q2,if_neg (by omega),hA]; omega
    · rw [if_neg q2]
      by_cases q3:j=i
      · rw [if_pos q3,if_pos q3,q3]
      · rw [if_neg q3,if_neg q3]
theorem qam (tk:Int)(l:List Cell)(m t b:List Int)(i:Nat)(hi:i<l.length):
    tab l.length (upd (Tk tk l m t b i) i (outA tk l m t b i) (outB tk l m t b i))=tab l.length (Tk tk l m t b (i+1)):=q2y fun j hj=>by
  unfold upd
  by_cases g1:1≤i∧j=i - 1
  · obtain ⟨g1,rfl⟩:=g1
    rw [if_pos ⟨g1,rfl⟩]
    unfold Tk
    rw [if_pos (show i - 1<i by omega),if_neg (show ¬ (i - 1+1<i) by omega),if_pos (show i - 1<i+1 by omega),if_pos (show i - 1+1<i+1 by omega),show i - 1+1=i by omega]
    have e2:(1≤i - 1∧i - 1≤i)=(1≤i - 1∧i - 1≤i+1):=by rw [eq_iff_iff]; omega
    simp only [e2]; omega
  · rw [if_neg g1]
    by_cases g2:j=i+1
    · subst g2
      rw [if_pos rfl]
      unfold Tk
      rw [if_neg (show ¬ (i+1<i) by omega),if_neg (show ¬ (1≤i+1∧i+1≤i) by omega),if_neg (show ¬ (i+1+1<i) by omega),if_neg (show ¬ (i+1<i+1) by omega),if_pos (show 1≤i+1∧i+1≤i+1 by omega),if_neg (show ¬ (i+1+1<i+1) by omega),Nat.add_sub_cancel]; omega
    · rw [if_neg g2]
      by_cases g3:j=i
      · subst g3
        rw [if_pos rfl]
        unfold Tk
        rw [if_neg (show ¬ (j<j) by omega),if_neg (show ¬ (j+1<j) by omega),if_pos (show j<j+1 by omega),if_neg (show ¬ (j+1<j+1) by omega)]
        have e2:(1≤j∧j≤j)=(1≤j∧j≤j+1):=by rw [eq_iff_iff]; omega
        simp only [e2]; omega
      · rw [if_neg g3]
        unfold Tk
        have e1:(j<i)=(j<i+1):=by rw [eq_iff_iff]; omega
        have e2:(1≤j∧j≤i)=(1≤j∧j≤i+1):=by rw [eq_iff_iff]; omega
        have e3:(j+1<i)=(j+1<i+1):=by rw [eq_iff_iff]; omega
        simp only [e1,e2,e3]
theorem qal (tk:Int)(l:List Cell)(m t b:List Int)(hm:m.length=l.length):tab l.length (Tk tk l m t b l.length)=tab l.length (stT tk l m t b):=q2y fun j hj=>by
  unfold Tk stT
  rw [if_pos hj]
  have e2:(1≤j∧j≤l.length)=(1≤j):=by rw [eq_iff_iff]; omega
  simp only [e2]
  by_cases g:j+1<l.length
  · rw [if_pos g]; omega
  · rw [if_neg g]
    have:outB tk l m t b (j+1)=0:=by
      apply qxd
      unfold lft
      rw [if_pos (by omega),Nat.add_sub_cancel,qot (by omega)]; rfl
    omega
theorem qan (tk:Int)(l:List Cell)(m t b:List Int)(ht:t.length=l.length):t=tab l.length (Tk tk l m t b 0):=by
  have h:=q22 t
  rw [ht] at h
  refine h.trans (q2y fun j hj=> ?_)
  unfold Tk
  rw [if_neg (by omega),if_neg (by omega),if_neg (by omega)]; omega
end Go.Proofs.YtjfjniebmdafeaaGreatDoor
end
section
namespace Go.Proofs.YtjfjniebmdafeaaGreatDoor
open Go.Ev
def q2o (g:Nat→Int):Nat→Int
  | 0=>0
  | n+1=>q2o g n+g n
theorem qqd: ∀ (a b:List Int),isum (a++b)=isum a+isum b
  | [],b=>by simp [isum]
  | x::a,b=>by simp only [List.cons_append,isum,qqd a b]; omega
theorem qql (g:Nat→Int): ∀ n,isum (tab n g)=q2o g n
  | 0=>by simp [tab,isum,q2o]
  | n+1=>by
    have:=qql g n
    unfold tab at*
    rw [List.range_succ,List.map_append,qqd,this]
    simp [isum,q2o]
theorem qqk (l:List Int):isum l=q2o (fun j=>l.getD j 0) l.length:=by
  have h:=q22 l
  have e:=qql (fun j=>l.getD j 0) l.length
  rw [← h] at e; exact e
theorem qv0: ∀ (m t:List Int),m.length=t.length→(∀ i,i<m.length→(0≤m.getD i 0∧m.getD i 0≤10000000)∧0≤t.getD i 0∧t.getD i 0≤1000*m.getD i 0)→qvx m t=true
  | [],t,hl,h=>by simp [qvx]
  | x::m,[],hl,h=>by simp at hl
  | x::m,y::t,hl,h=>by
    have h0:=h 0 (by simp)
    simp only [List.getD_cons_zero] at h0
    have ih:=qv0 m t (by simpa using hl) fun i hi=>by simpa using h (i+1) (by simpa using hi)
    simp only [qvx,ih,Bool.and_true,Bool.and_eq_true,qp3]
    exact h0
theorem qon: ∀ (l:List Int),(∀ x∈l,0≤x)→ ∀ x∈l,x≤isum l
  | [],h,x,hx=>by cases hx
  | y::l,h,x,hx=>by
    have hn:0≤isum l:=by
      clear hx
      induction l with
      | nil=>simp [isum]
      | cons z l ih=>
        have:=ih (fun w hw=>h w (by simp only [List.mem_cons] at*; rcases hw with rfl | hw<;>simp_all))
        have:=h z (by simp)
        simp only [isum]; omega
    have hy:=h y (by simp)
    simp only [isum]
    rcases List.mem_cons.1 hx with rfl | hx
    · omega
    · have:=qon l (fun w hw=>h w (by simp [hw])) x hx
      omega
theorem q1d {t p m:Int}(hm:1≤m)(hm' :m≤10000000)(hp:0≤p)(hp' :p≤m)(ht:0≤t)(ht' :t≤1000*m):q1c t p m=t*p / m:=by
  unfold q1c
  rw [qp3.2 ⟨hm,hm'⟩,qp3.2 ⟨hp,hp'⟩,qp3.2 ⟨ht,ht'⟩]
  simp only [Bool.and_self,qik]
  exact Int.tdiv_eq_ediv_of_nonneg (Int.mul_nonneg ht hp)
theorem q1h {t p m:Int}(hm:1≤m)(hp:0≤p)(hp' :p≤m)(ht:0≤t)(ht' :t≤1000*m):0≤t*p / m∧t*p / m≤t∧t - 1000*(m - p)≤t*p / m:=by
  refine ⟨Int.ediv_nonneg (Int.mul_nonneg ht hp) (by omega),?_,?_⟩
  · apply Int.ediv_le_of_le_mul (by omega)
    exact Int.mul_le_mul_of_nonneg_left hp' ht
  · apply Int.le_ediv_of_mul_le (by omega)
    have h1:t*(m - p)≤1000*m*(m - p):=Int.mul_le_mul_of_nonneg_right ht' (by omega)
    have e1:t*(m - p)=t*m - t*p:=Int.mul_sub t m p
    have e2:1000*m*(m - p)=1000*(m - p)*m:=by rw [Int.mul_assoc,Int.mul_comm m (m - p),← Int.mul_assoc]
    have e3:(t - 1000*(m - p))*m=t*m - 1000*(m - p)*m:=Int.sub_mul _ _ _
    omega
theorem q1i {t r l m:Int}(hm:1≤m)(hr:0≤r)(hl:0≤l)(ht:0≤t)(ht' :t≤1000*m):t*r / m≤t*(r+l) / m∧t*(r+l) / m≤t*r / m+1000*l:=by
  have e:t*(r+l)=t*r+t*l:=Int.mul_add t r l
  have n:=Int.mul_nonneg ht hl
  have h1:t*l≤1000*m*l:=Int.mul_le_mul_of_nonneg_right ht' hl
  have e2:1000*m*l=1000*l*m:=by rw [Int.mul_assoc,Int.mul_comm m l,← Int.mul_assoc]
  refine ⟨Int.ediv_le_ediv (by omega) (by omega),?_⟩
  rw [← Int.add_mul_ediv_right _ _ (by omega:m≠0)]
  exact Int.ediv_le_ediv (by omega) (by omega)
section
variable {r:Int} {l:List Cell} {m t b:List Int}
theorem qym (F:StF r l m t b)(tk:Int)(i:Nat):0≤rgt tk l m b i∧rgt tk l m b i≤m.getD i 0 / 4:=by
  have:=qou F tk i; have:=F.at i
  unfold rgt; omega
theorem qtg (F:StF r l m t b)(tk:Int)(i:Nat):0≤lft tk l m b i∧lft tk l m b i≤m.getD i 0 / 4:=by
  have h:=qou F tk (i - 1); have:=F.at i
  unfold lft
  by_cases g:1≤i
  · rw [if_pos g]; rw [show i - 1+1=i by omega] at h; omega
  · rw [if_neg g]; omega
theorem qxe (F:StF r l m t b)(tk:Int)(i:Nat):0≤outA tk l m t b i∧outA tk l m t b i≤1000*rgt tk l m b i∧0≤outB tk l m t b i∧outB tk l m t b i≤1000*lft tk l m b i∧
    outA tk l m t b i+outB tk l m t b i≤t.getD i 0∧t.getD i 0 - 1000*(m.getD i 0 - rgt tk l m b i - lft tk l m b i)≤outA tk l m t b i+outB tk l m t b i:=by
  have h:=F.at i; have R:=qym F tk i; have L:=qtg F tk i
  by_cases hm:1≤m.getD i 0
  · have ok:loOk (t.getD i 0) (m.getD i 0) (rgt tk l m b i) (lft tk l m b i)=true:=by
      unfold loOk
      rw [qp3.2 ⟨hm,h.2.1⟩,qp3.2 ⟨h.2.2.1,h.2.2.2⟩,qp3.2 ⟨R.1,by omega⟩,qp3.2 ⟨L.1,by omega⟩]; rfl
    have s1:=q1d (t:=t.getD i 0) (p:=rgt tk l m b i) hm h.2.1 R.1 (by omega) h.2.2.1 h.2.2.2
    have s2:=q1d (t:=t.getD i 0) (p:=rgt tk l m b i+lft tk l m b i) hm h.2.1 (by omega) (by omega) h.2.2.1 h.2.2.2
    have c1:=q1h (t:=t.getD i 0) (p:=rgt tk l m b i+lft tk l m b i) hm (by omega) (by omega) h.2.2.1 h.2.2.2
    have c2:=q1i (t:=t.getD i 0) (r:=rgt tk l m b i) (l:=lft tk l m b i) hm R.1 L.1 h.2.2.1 h.2.2.2
    have c3:=q1f (t:=t.getD i 0) (p:=rgt tk l m b i) (m:=m.getD i 0) h.2.2.1 R.1 h.2.2.2
    have c4:=(q1e (t.getD i 0) (rgt tk l m b i) (m.getD i 0)).1
    unfold outA outB loA loB
    rw [ok]
    simp only [qik]
    omega
  · have z:m.getD i 0=0:=by omega
    have ok:loOk (t.getD i 0) (m.getD i 0) (rgt tk l m b i) (lft tk l m b i)=false:=by
      unfold loOk
      have:inR (m.getD i 0) 1 10000000=false:=by rw [← Bool.not_eq_true,qp3]; omega
      rw [this]; rfl
    unfold outA outB loA loB
    rw [ok]
    simp only [qii]
    omega
theorem q13 (F:StF r l m t b)(tk:Int)(j:Nat):stM tk l m b j=m.getD j 0 - rgt tk l m b j - lft tk l m b j+(if 1≤j then rgt tk l m b (j - 1) else 0)+lft tk l m b (j+1):=by
  unfold stM rgt lft
  rw [if_pos (show 1≤j+1 by omega),Nat.add_sub_cancel]
  by_cases g:1≤j
  · simp only [if_pos g]; omega
  · simp only [if_neg g]; omega
theorem q14 (F:StF r l m t b)(tk:Int)(j:Nat):0≤stM tk l m b j:=by
  rw [q13 F]
  have R:=qym F tk j; have L:=qtg F tk j; have R' :=qym F tk (j - 1); have L' :=qtg F tk (j+1); have:=F.at j
  by_cases g:1≤j
  · rw [if_pos g]; omega
  · rw [if_neg g]; omega
theorem q16 (F:StF r l m t b)(tk:Int)(j:Nat):0≤stT tk l m t b j∧stT tk l m t b j≤1000*stM tk l m b j:=by
  rw [q13 F]
  unfold stT
  have a:=qxe F tk j; have a1:=qxe F tk (j - 1); have a2:=qxe F tk (j+1)
  by_cases g:1≤j
  · rw [if_pos g,if_pos g]; omega
  · rw [if_neg g,if_neg g]; omega
theorem q15 (tk:Int)(l:List Cell)(m b:List Int): ∀ n,q2o (stM tk l m b) n=q2o (fun j=>m.getD j 0) n - (if 1≤n then ff tk l m b (n - 1) else 0)
  | 0=>by simp [q2o]
  | n+1=>by
    have ih:=q15 tk l m b n
    simp only [q2o,ih]
    rw [if_pos (show 1≤n+1 by omega),Nat.add_sub_cancel]
    unfold stM
    by_cases g:1≤n
    · simp only [if_pos g]; omega
    · simp only [if_neg g]; omega
theorem q17 (tk:Int)(l:List Cell)(m t b:List Int): ∀ n,q2o (stT tk l m t b) n=q2o (fun j=>t.getD j 0) n - (if 1≤n then outA tk l m t b (n - 1) else 0) - outB tk l m t b 0+outB tk l m t b n
  | 0=>by simp [q2o]; omega
  | n+1=>by
    have ih:=q17 tk l m t b n
    simp only [q2o,ih]
    rw [if_pos (show 1≤n+1 by omega),Nat.add_sub_cancel]
    unfold stT
    by_cases g:1≤n
    · simp only [if_pos g]; omega
    · simp only [if_neg g]; omega
theorem q2f (F:StF r l m t b)(tk:Int):isum (tab l.length (stM tk l m b))=isum m:=by
  have L:=F.len
  rw [qql,q15,qqk m,F.ml,if_pos L.1,qot (by omega)]; omega
theorem q2g (F:StF r l m t b)(tk:Int):isum (tab l.length (stT tk l m t b))=isum t:=by
  have L:=F.len
  have z1:outA tk l m t b (l.length - 1)=0:=qxb (by unfold rgt; rw [qot (by omega)]; rfl)
  have z2:outB tk l m t b 0=0:=qxd (by unfold lft; rw [if_neg (by omega)])
  have z3:outB tk l m t b l.length=0:=qxd (by unfold lft; rw [if_pos L.1,qot (by omega)]; rfl)
  rw [qql,q17,qqk t,F.tl,if_pos L.1,z1,z2,z3]; omega
theorem q2c (F:StF r l m t b)(tk:Int):StF r l (tab l.length (stM tk l m b)) (tab l.length (stT tk l m t b)) b:=by
  have hs:=q2f F tk
  have hn: ∀ x∈tab l.length (stM tk l m b),0≤x:=by
    intro x hx
    simp only [tab,List.mem_map] at hx
    obtain ⟨j,_,rfl⟩:=hx
    exact q14 F tk j
  refine ⟨F.mesh,F.bal,q20 _ _,q20 _ _,F.bl,?_,F.bed,by rw [hs]; exact F.sum⟩
  refine qv0 _ _ (by rw [q20,q20]) fun i hi=> ?_
  rw [q20] at hi
  have h1:=qon _ hn _ (qpj (by rw [q20]; exact hi:i<(tab l.length (stM tk l m b)).length) 0)
  rw [hs] at h1
  have:=F.sum
  rw [q2z hi] at*
  rw [q2z hi]
  exact ⟨⟨q14 F tk i,by omega⟩,q16 F tk i⟩
end
end Go.Proofs.YtjfjniebmdafeaaGreatDoor
end
section
namespace Go.Proofs.YtjfjniebmdafeaaGreatDoor
open Go.Ev
abbrev S3:=List Cell×List Int×List Int
structure StU (r:Int) (s:S3) (b:List Int):Prop where
  mesh:qv6 r 0 s.1=true
  ml:s.2.1.length=s.1.length
  tl:s.2.2.length=s.1.length
  bl:(b.length:Int)=r
  mt:qvx s.2.1 s.2.2=true
  bed:qbf b=true
  sum:isum s.2.1≤10000000
theorem StF.toU {r:Int}{l:List Cell}{m t b:List Int}(F:StF r l m t b):StU r (l,m,t) b:=⟨F.mesh,F.ml,F.tl,F.bl,F.mt,F.bed,F.sum⟩
theorem StU.toF {r:Int}{s:S3}{b:List Int}(U:StU r s b)(h:unb s.1<0):StF r s.1 s.2.1 s.2.2 b:=⟨U.mesh,h,U.ml,U.tl,U.bl,U.mt,U.bed,U.sum⟩
theorem StU.len {r:Int}{s:S3}{b:List Int}(U:StU r s b):1≤s.1.length∧s.1.length≤128:=qwb U.mesh
theorem StU.rr {r:Int}{s:S3}{b:List Int}(U:StU r s b):1≤r∧r≤8:=⟨(qwa _ _ _ U.mesh).1,(qwa _ _ _ U.mesh).2.1⟩
theorem StU.at {r:Int}{s:S3}{b:List Int}(U:StU r s b)(i:Nat):0≤s.2.1.getD i 0∧s.2.1.getD i 0≤10000000∧0≤s.2.2.getD i 0∧s.2.2.getD i 0≤1000*s.2.1.getD i 0:=qvy _ _ (by rw [U.ml,U.tl]) U.mt i
theorem StU.id {r:Int}{s:S3}{b:List Int}(U:StU r s b){i:Nat}(h:i<s.1.length):idOk (s.1.getD i zz3).1 (s.1.getD i zz3).2.1 (s.1.getD i zz3).2.2=true:=((qwa _ _ _ U.mesh).2.2.2.1 _ h).2.2
theorem qty: ∀ (n:Nat)(m t:List Int),qvx m t=true→qvx (m.take n) (t.take n)=true
  | 0,m,t,h=>by simp [qvx]
  | n+1,[],t,h=>by simp [qvx]
  | n+1,x::m,[],h=>by simp [qvx]
  | n+1,x::m,y::t,h=>by
    simp only [List.take_succ_cons,qvx,Bool.and_eq_true] at h ⊢
    exact ⟨h.1,h.2.1,qty n m t h.2.2⟩
theorem qtx: ∀ (n:Nat)(m t:List Int),qvx m t=true→qvx (m.drop n) (t.drop n)=true
  | 0,m,t,h=>by simpa using h
  | n+1,[],t,h=>by simp [qvx]
  | n+1,x::m,[],h=>by cases h' :List.drop n m<;>simp [qvx,h']
  | n+1,x::m,y::t,h=>by
    simp only [List.drop_succ_cons,qvx,Bool.and_eq_true] at h ⊢
    exact qtx n m t h.2.2
theorem qtv: ∀ (m t m' t' :List Int),m.length=t.length→qvx m t=true→qvx m' t' =true→qvx (m++m') (t++t')=true
  | [],[],m',t',_,_,h=>h
  | [],_::_,_,_,h,_,_=>by simp at h
  | _::_,[],_,_,h,_,_=>by simp at h
  | x::m,y::t,m',t',hl,h,h' =>by
    simp only [List.cons_append,qvx,Bool.and_eq_true] at h ⊢
    exact ⟨h.1,h.2.1,qtv m t m' t' (by simpa using hl) h.2.2 h'⟩
theorem qtw {x y:Int}{m t:List Int}(h1:0≤x∧x≤10000000)(h2:0≤y∧y≤1000*x)(h:qvx m t=true):qvx (x::m) (y::t)=true:=by
  simp only [qvx,Bool.and_eq_true,qp3]; exact ⟨h1,h2,h⟩
theorem qqe {m:List Int}{i:Nat}(h:i<m.length):isum (m.take i)+m.getD i 0+isum (m.drop (i+1))=isum m:=by
  have e:=qin h 0
  have:=congrArg isum e
  rw [qqd,isum] at this
  omega
abbrev hA (x:Int):Int:=x - x / 2
abbrev hB (x:Int):Int:=x / 2
theorem hAB {x:Int}(h:0≤x):hA x+hB x=x∧0≤hB x∧hB x≤x∧0≤hA x∧hA x≤x:=by unfold hA hB; omega
def rfM (m:List Int)(i:Nat):List Int:=m.take i++hA (m.getD i 0)::hB (m.getD i 0)::m.drop (i+1)
abbrev shr (t m:Int):Int:=q1c t (hA m) m
def rfT (t m:List Int)(i:Nat):List Int:=t.take i++shr (t.getD i 0) (m.getD i 0)::(t.getD i 0 - shr (t.getD i 0) (m.getD i 0))::t.drop (i+1)
def rfS (s:S3)(i:Nat):S3:=(q1y s.1 i,rfM s.2.1 i,rfT s.2.2 s.2.1 i)
theorem q1j {t m:Int}(hm:0≤m∧m≤10000000)(ht:0≤t∧t≤1000*m):(0≤shr t m∧shr t m≤1000*hA m)∧0≤t - shr t m∧t - shr t m≤1000*hB m:=by
  have q:=hAB hm.1
  have p1:=(q1e t (hA m) m).1
  have p2:=q1f (t:=t) (p:=hA m) (m:=m) ht.1 (by omega) ht.2
  by_cases h0:m=0
  · subst h0
    have:t=0:=by omega
    subst this
    have p3:shr 0 0=0:=by unfold shr; omega
    rw [p3] at*
    exact ⟨⟨by omega,by omega⟩,by omega,by omega⟩
  · have e:shr t m=(t*hA m) / m:=by
      unfold shr q1c
      rw [show inR m 1 10000000=true from qp3.2 (by omega),show inR (hA m) 0 m=true from qp3.2 (by omega),show inR t 0 (1000*m)=true from qp3.2 ht]
      simp only [Bool.and_self,qik]
      exact Int.tdiv_eq_ediv_of_nonneg (Int.mul_nonneg ht.1 (by omega))
    refine ⟨⟨p1,p2⟩,?_,?_⟩
    · have:(t*hA m) / m≤t:=by
        apply Int.ediv_le_of_le_mul (by omega)
        exact Int.mul_le_mul_of_nonneg_left (by omega) ht.1
      omega
    · have hx:t*hB m≤1000*m*hB m:=Int.mul_le_mul_of_nonneg_right ht.2 (by omega)
      have hs:t*hA m+t*hB m=t*m:=by rw [← Int.mul_add,q.1]
      have h2:(t - 1000*hB m)*m≤t*hA m:=by
        rw [Int.sub_mul,Int.mul_right_comm 1000 (hB m) m]
        rw [show 1000*m*hB m=1000*m*hB m from rfl] at hx
        omega
      have:t - 1000*hB m≤(t*hA m) / m:=(Int.le_ediv_iff_mul_le (by omega)).2 h2
      omega
theorem qyi {m:List Int}{i:Nat}(h:i<m.length):(rfM m i).length=m.length+1:=by
  simp only [rfM,List.length_append,List.length_take,List.length_cons,List.length_drop]; omega
theorem qyk {t m:List Int}{i:Nat}(h:i<t.length):(rfT t m i).length=t.length+1:=by
  simp only [rfT,List.length_append,List.length_take,List.length_cons,List.length_drop]; omega
theorem qyj {m:List Int}{i:Nat}(h:i<m.length)(h0:0≤m.getD i 0):isum (rfM m i)=isum m:=by
  have:=qqe h; have:=hAB h0
  simp only [rfM,qqd,isum]
  omega
theorem qyl {t m:List Int}{i:Nat}(h:i<t.length):isum (rfT t m i)=isum t:=by
  have:=qqe h
  simp only [rfT,qqd,isum]
  omega
theorem rf_U {r:Int}{s:S3}{b:List Int}(U:StU r s b){i:Nat}(hi:i<s.1.length)(hl:qte s.1 i<4):StU r (rfS s i) b:=by
  have a:=U.at i; have ml:=U.ml; have tl:=U.tl; have q:=hAB a.1
  have sh:=q1j ⟨a.1,a.2.1⟩ ⟨a.2.2.1,a.2.2.2⟩
  refine ⟨q12 U.mesh hi hl,?_,?_,U.bl,?_,U.bed,?_⟩
  · show (rfM s.2.1 i).length=(q1y s.1 i).length
    rw [qyi (by omega),q1z hi]; omega
  · show (rfT s.2.2 s.2.1 i).length=(q1y s.1 i).length
    rw [qyk (by omega),q1z hi]; omega
  · exact qtv _ _ _ _ (by rw [List.length_take,List.length_take]; omega) (qty i _ _ U.mt) (qtw (by omega) sh.1 (qtw (by omega) sh.2 (qtx _ _ _ U.mt)))
  · show isum (rfM s.2.1 i)≤_
    rw [qyj (by omega) a.1]; exact U.sum
def cmM (m:List Int)(i:Nat):List Int:=m.take i++(m.getD i 0+m.getD (i+1) 0)::m.drop (i+2)
def cmS (s:S3)(i:Nat):S3:=(qv2 s.1 i,cmM s.2.1 i,cmM s.2.2 i)
theorem qic {m:List Int}{i:Nat}(h:i+1<m.length):(cmM m i).length+1=m.length:=by
  simp only [cmM,List.length_append,List.length_take,List.length_cons,List.length_drop]; omega
theorem qqf {m:List Int}{i:Nat}(h:i+1<m.length):isum (m.take i)+m.getD i 0+m.getD (i+1) 0+isum (m.drop (i+2))=isum m:=by
  have e:=qqe (show i<m.length by omega)
  rw [qi5 h 0,isum,show i+1+1=i+2 from rfl] at e
  omega
theorem qid {m:List Int}{i:Nat}(h:i+1<m.length):isum (cmM m i)=isum m:=by
  have:=qqf h
  simp only [cmM,qqd,isum]
  omega
theorem qqi {m:List Int}(h: ∀ x∈m,0≤x):0≤isum m:=by
  induction m with
  | nil=>simp [isum]
  | cons x m ih=>have:=h x (by simp); have:=ih fun y hy=>h y (by simp [hy]); simp only [isum]; omega
theorem cm_U {r:Int}{s:S3}{b:List Int}(U:StU r s b){i:Nat}(hi:i+1<s.1.length)(hs:sib (s.1.getD i zz3) (s.1.getD (i+1) zz3)=true):StU r (cmS s i) b:=by
  have a:=U.at i; have a' :=U.at (i+1); have ml:=U.ml; have tl:=U.tl
  have mem:=qvz _ _ (by rw [ml,tl]) U.mt
  have s1:=qqi (m:=s.2.1.take i) fun x hx=>(mem.1 x (List.mem_of_mem_take hx)).1
  have s2:=qqi (m:=s.2.1.drop (i+2)) fun x hx=>(mem.1 x (List.mem_of_mem_drop hx)).1
  have s3:=qqf (m:=s.2.1) (i:=i) (by omega)
  have s4:=U.sum
  refine ⟨qv4 U.mesh hi hs,?_,?_,U.bl,?_,U.bed,?_⟩
  · show (cmM s.2.1 i).length=(qv2 s.1 i).length
    have h1:=qic (m:=s.2.1) (i:=i) (by omega); have h2:=qv3 hi; omega
  · show (cmM s.2.2 i).length=(qv2 s.1 i).length
    have h1:=qic (m:=s.2.2) (i:=i) (by omega); have h2:=qv3 hi; omega
  · exact qtv _ _ _ _ (by rw [List.length_take,List.length_take]; omega) (qty i _ _ U.mt) (qtw (by omega) (by omega) (qtx _ _ _ U.mt))
  · show isum (cmM s.2.1 i)≤_
    rw [qid (by omega)]; exact U.sum
def lvS:Nat→S3→S3
  | 0,s=>s
  | n+1,s=>if unb s.1<0 then s else lvS n (rfS s (qif s.1 (unb s.1).toNat))
theorem qtt {r:Int}{b:List Int} : ∀ (n:Nat)(s:S3),StU r s b→129≤n+s.1.length→StU r (lvS n s) b∧unb (lvS n s).1<0
  | 0,s,U,hn=>by have:=U.len; omega
  | n+1,s,U,hn=>by
    unfold lvS
    by_cases g:unb s.1<0
    · rw [if_pos g]; exact ⟨U,g⟩
    · rw [if_neg g]
      obtain ⟨j,e,h1,h2⟩:=q3o (by omega:0≤unb s.1)
      have c:=qig U.mesh h1 h2
      rw [e,Int.toNat_natCast]
      exact qtt n _ (rf_U U c.1 c.2) (by show 129≤n+(q1y s.1 _).length; rw [q1z c.1]; omega)
def spS (w:List Int):Nat→S3→S3
  | 0,s=>s
  | n+1,s=>spS w n (if w.getD n 0=1 then rfS s n else s)
def mayC (l:List Cell)(i:Nat):Bool:=sib (l.getD i zz3) (l.getD (i+1) zz3)&&((decide (i=0)||decide (qte l (i - 1)≤qte l i))&&(decide (l.length≤i+2)||decide (qte l (i+2)≤qte l i)))
def mgS (P:Cell→Bool):Nat→Nat→S3→S3
  | 0,i,s=>s
  | n+1,i,s=>if i+1<s.1.length then mgS P n (i+1) (if (P (s.1.getD i zz3)&&(P (s.1.getD (i+1) zz3)&&mayC s.1 i))=true then cmS s i else s) else s
theorem q10 {l:List Cell}{i j:Nat}(hi:i<l.length)(h:j<i):(q1y l i).getD j zz3=l.getD j zz3:=by
  unfold q1y
  simp only [List.getD_eq_getElem?_getD]
  rw [List.getElem?_append_left (by rw [List.length_take]; omega),List.getElem?_take,if_pos h]
theorem q1p {r:Int}{b:List Int}(w:List Int)(l0:List Cell)(hw: ∀ j,w.getD j 0=1→qte l0 j<4): ∀ (n:Nat)(s:S3),StU r s b→n≤s.1.length→(∀ j,j<n→s.1.getD j zz3=l0.getD j zz3)→StU r (spS w n s) b
  | 0,s,U,hn,he=>U
  | n+1,s,U,hn,he=>by
    unfold spS
    by_cases g:w.getD n 0=1
    · rw [if_pos g]
      have hl:qte s.1 n<4:=by have:=hw n g; unfold qte at*; rw [he n (by omega)]; exact this
      exact q1p w l0 hw n _ (rf_U U (by omega) hl) (by show n≤(q1y s.1 n).length; rw [q1z (by omega)]; omega) fun j hj=>by
        show (q1y s.1 n).getD j zz3=_
        rw [q10 (by omega) hj]; exact he j (by omega)
    · rw [if_neg g]
      exact q1p w l0 hw n s U (by omega) fun j hj=>he j (by omega)
theorem qwe {r:Int}{b:List Int}(P:Cell→Bool): ∀ (n i:Nat)(s:S3),StU r s b→StU r (mgS P n i s) b
  | 0,i,s,U=>U
  | n+1,i,s,U=>by
    unfold mgS
    by_cases g:i+1<s.1.length
    · rw [if_pos g]
      by_cases h:(P (s.1.getD i zz3)&&(P (s.1.getD (i+1) zz3)&&mayC s.1 i))=true
      · rw [if_pos h]
        simp only [Bool.and_eq_true,mayC] at h
        exact qwe P n (i+1) _ (cm_U U g h.2.2.1)
      · rw [if_neg h]; exact qwe P n (i+1) s U
    · rw [if_neg g]; exact U
theorem qv5 {l:List Cell}{i:Nat}(hi:i+1<l.length)(hu:unb l<0)(hm:mayC l i=true)(h1:1≤qte l i):unb (qv2 l i)<0:=by
  have ml:=qv3 hi
  simp only [mayC,Bool.and_eq_true,Bool.or_eq_true,decide_eq_true_eq,sib] at hm
  obtain ⟨⟨_,_,_,hlev,_⟩,hlo,hhi⟩:=hm
  rw [q3p] at hu ⊢
  have lv: ∀ j,qte (qv2 l i) j=if j<i then qte l j else if j=i then qte l i - 1 else qte l (j+1):=fun j=>by
    unfold qv2 qte
    simp only [List.getD_eq_getElem?_getD]
    by_cases g:j<i
    · rw [if_pos g,List.getElem?_append_left (by rw [List.length_take]; omega),List.getElem?_take,if_pos g]
    · rw [if_neg g,List.getElem?_append_right (by rw [List.length_take]; omega),List.length_take,Nat.min_eq_left (by omega)]
      by_cases g2:j=i
      · subst g2; rw [if_pos rfl,Nat.sub_self]; simp [par]
      · rw [if_neg g2,show j - i=(j - i - 1)+1 by omega,List.getElem?_cons_succ,List.getElem?_drop]
        congr 4; omega
  intro j hj
  have hj' :j+1<l.length - 1:=by omega
  rw [lv,lv]
  have hu1:=fun q (hq:q+1<l.length)=>hu q hq
  have hle:qte l i=qte l (i+1):=hlev
  by_cases g:j+1<i
  · rw [if_pos (by omega),if_pos g]; exact hu j (by omega)
  by_cases g1:j+1=i
  · rw [if_pos (by omega),if_neg (by omega),if_pos g1]
    have:=hu j (by omega)
    rw [g1] at this
    rcases hlo with h | h
    · omega
    · rw [show i - 1=j by omega] at h; omega
  by_cases g2:j=i
  · subst g2
    rw [if_neg (by omega),if_pos rfl,if_neg (by omega),if_neg (by omega)]
    have:=hu (j+1) (by omega)
    rcases hhi with h | h
    · omega
    · rw [show j+1+1=j+2 by omega] at*; omega
  · rw [if_neg (by omega),if_neg (by omega),if_neg (by omega),if_neg (by omega)]; exact hu (j+1) (by omega)
theorem q1k {a b:Cell}(h:sib a b=true):1≤a.2.1:=by
  simp only [sib,Bool.and_eq_true,decide_eq_true_eq] at h
  obtain ⟨h1,h2,h3,h4,h5,h6⟩:=h
  rw [← h3,← h4,h6] at h2
  exact (qxi h1 h2 h5).1
theorem qwg (P:Cell→Bool): ∀ (n i:Nat)(s:S3),unb s.1<0→unb (mgS P n i s).1<0
  | 0,i,s,U=>U
  | n+1,i,s,U=>by
    unfold mgS
    by_cases g:i+1<s.1.length
    · rw [if_pos g]
      by_cases h:(P (s.1.getD i zz3)&&(P (s.1.getD (i+1) zz3)&&mayC s.1 i))=true
      · rw [if_pos h]
        simp only [Bool.and_eq_true] at h
        have h2:=h.2.2
        simp only [mayC,Bool.and_eq_true] at h2
        exact qwg P n (i+1) _ (qv5 g U h.2.2 (q1k h2.1))
      · rw [if_neg h]; exact qwg P n (i+1) s U
    · rw [if_neg g]; exact U
end Go.Proofs.YtjfjniebmdafeaaGreatDoor
end
section
namespace Go.Proofs.YtjfjniebmdafeaaGreatDoor
open Go.Ev
theorem qkk (k:Nat)(a0:Int)(a1z:Bool)(a1:L3)(a2z:Bool)(a2:LI)(a3z:Bool)(a3:LI)(a4z:Bool)(a4:LI)(b:Int):go (k+1) impl_State_flux [sV false a0 a1z a1 a2z a2 a3z a3 a4z a4,.int .i64 b]=
 (go k impl_State_side [sV false a0 a1z a1 a2z a2 a3z a3 a4z a4,.int .i64 b]).bind fun r0=>
 (go k impl_State_side [sV false a0 a1z a1 a2z a2 a3z a3 a4z a4,.int .i64 (IntKind.wrap .i64 (b+1))]).bind fun r1=>
 (go k impl_flux [.agg [.int .i64 (D.toInt (D.cell 0 (nth r0 0))),.int .i64 (D.toInt (D.cell 1 (nth r0 0))),.int .i64 (D.toInt (D.cell 2 (nth r0 0)))],.agg [.int .i64 (D.toInt (D.cell 0 (nth r1 0))),.int .i64 (D.toInt (D.cell 1 (nth r1 0))),.int .i64 (D.toInt (D.cell 2 (nth r1 0)))]]).bind fun r2=>
 some [.int .i64 (D.toInt (nth r2 0))]:=by kernel_rfl
theorem qkw (k:Nat)(a0:Int)(a1z:Bool)(a1:L3)(a2z:Bool)(a2:LI)(a3z:Bool)(a3:LI)(a4z:Bool)(a4:LI)(b:Int):go (k+1) impl_State_side [sV false a0 a1z a1 a2z a2 a3z a3 a4z a4,.int .i64 b]=
 cond (decide (0≤b)&&decide (b<nI (List.length a1)))
 (cond (decide (0≤b)&&decide (b<nI (List.length a2)))
 ((go k impl_State_surface [sV false a0 a1z a1 a2z a2 a3z a3 a4z a4,.int .i64 b]).bind fun r0=>
 some [.agg [.int .i64 (Prod.fst (Prod.snd (List.getD a1 (Int.toNat b) zz3))),.int .i64 (List.getD a2 (Int.toNat b) 0),.int .i64 (D.toInt (nth r0 0))]])
 none)
 none:=by kernel_rfl
theorem qld (k:Nat)(a0 a1 a2 b0 b1 b2:Int):go (k+1) impl_flux [.agg [.int .i64 a0,.int .i64 a1,.int .i64 a2],.agg [.int .i64 b0,.int .i64 b1,.int .i64 b2]]=
 (go k impl_WidthOf [.int .i64 a0]).bind fun r0=>
 (go k impl_WidthOf [.int .i64 b0]).bind fun r1=>
 (go k impl_WidthOf [.int .i64 (if b0>a0 then b0 else a0)]).bind fun r2=>
 (go k impl_DivTrunc [.int .i64 (IntKind.wrap .i64 (IntKind.wrap .i64 (a2 - b2)*D.toInt (nth r2 0))),.int .i64 (IntKind.wrap .i64 (32*IntKind.wrap .i64 (D.toInt (nth r0 0)+D.toInt (nth r1 0))))]).bind fun r3=>
 (go k impl_Clamp [.int .i64 (D.toInt (nth r3 0)),.int .i64 (IntKind.wrap .i64 (0 - IntKind.wrap .i64 (Int.tdiv b1 4))),.int .i64 (IntKind.wrap .i64 (Int.tdiv a1 4))]).bind fun r4=>
 some [.int .i64 (D.toInt (nth r4 0))]:=by kernel_rfl
theorem qjb (k:Nat)(a b c:Int):go (k+1) impl_Clamp [.int .i64 a,.int .i64 b,.int .i64 c]=
 cond (decide (c<b))
 (some [.int .i64 b])
 (some [.int .i64 (if c<if b>a then b else a then c else if b>a then b else a)]):=by kernel_rfl
theorem qjd (k:Nat)(a b:Int):go (k+1) impl_DivTrunc [.int .i64 a,.int .i64 b]=
 cond (decide (b≤0))
 (some [.int .i64 0])
 (cond (!decide (b=0))
 (some [.int .i64 (IntKind.wrap .i64 (Int.tdiv a b))])
 none):=by kernel_rfl
theorem qjq (k:Nat)(a b c d:Int):go (k+1) impl_LeafOut [.int .i64 a,.int .i64 b,.int .i64 c,.int .i64 d]=
 (go k impl_within [.int .i64 b,.int .i64 1,.int .i64 10000000]).bind fun r0=>
 cond (!bit (nth r0 0))
 (some [.int .i64 0,.int .i64 0])
 ((go k impl_within [.int .i64 a,.int .i64 0,.int .i64 (IntKind.wrap .i64 (1000*b))]).bind fun r1=>
 cond (!bit (nth r1 0))
 (some [.int .i64 0,.int .i64 0])
 ((go k impl_within [.int .i64 c,.int .i64 0,.int .i64 b]).bind fun r2=>
 cond (!bit (nth r2 0))
 (some [.int .i64 0,.int .i64 0])
 ((go k impl_within [.int .i64 d,.int .i64 0,.int .i64 (IntKind.wrap .i64 (b - c))]).bind fun r3=>
 cond (!bit (nth r3 0))
 (some [.int .i64 0,.int .i64 0])
 ((go k impl_ShareOut [.int .i64 a,.int .i64 c,.int .i64 b]).bind fun r4=>
 (go k impl_ShareOut [.int .i64 a,.int .i64 (IntKind.wrap .i64 (c+d)),.int .i64 b]).bind fun r5=>
 some [.int .i64 (D.toInt (nth r4 0)),.int .i64 (IntKind.wrap .i64 (D.toInt (nth r5 0) - D.toInt (nth r4 0)))])))):=by kernel_rfl
theorem qj8 (k:Nat)(a b c:Int):go (k+1) impl_ShareOut [.int .i64 a,.int .i64 b,.int .i64 c]=
 (go k impl_within [.int .i64 c,.int .i64 1,.int .i64 10000000]).bind fun r0=>
 cond (!bit (nth r0 0))
 (some [.int .i64 0])
 ((go k impl_within [.int .i64 b,.int .i64 0,.int .i64 c]).bind fun r1=>
 cond (!bit (nth r1 0))
 (some [.int .i64 0])
 ((go k impl_within [.int .i64 a,.int .i64 0,.int .i64 (IntKind.wrap .i64 (1000*c))]).bind fun r2=>
 cond (!bit (nth r2 0))
 (some [.int .i64 0])
 (cond (!decide (c=0))
 (some [.int .i64 (IntKind.wrap .i64 (Int.tdiv (IntKind.wrap .i64 (a*b)) c))])
 none))):=by kernel_rfl
def qzc (x0 x1 x2:Int)(z3:Bool)(l4:L3)(x5:Int)(z6:Bool)(l7:LI):St:=⟨fill 26 [(1,.int .i64 x0),(2,.ptr 1 0 0),(5,.sl 2 none),(11,.int .i64 x1),(12,.int .i64 x2)],[],[.arr false z3 (.r3 l4),.box true [.int .i64 x5,.sl 0 none],.arr true z6 (.ints .i64 l7)]⟩
theorem qju (k:Nat)(a0:Int)(a1z:Bool)(a1:L3)(b:Int):go (k+1) impl_Mesh_active [.agg [.int .i64 a0,.arr false a1z (.r3 a1)],.int .i64 b]=
 lp k impl_Mesh_active [] [] 3 k (qzc b (IntKind.wrap .i64 (nI (List.length a1) - 1)) 0 a1z a1 a0 false []):=by kernel_rfl
theorem qrg (k n:Nat)(fu:FU)(x0 x1 x2:Int)(z3:Bool)(l4:L3)(x5:Int)(z6:Bool)(l7:LI):lp k impl_Mesh_active [] fu 3 (n+1) (qzc x0 x1 x2 z3 l4 x5 z6 l7)=
 cond (decide (x2<x1))
 ((go k impl_Mesh_faceLevel [.agg [.int .i64 x5,.arr false z3 (.r3 l4)],.int .i64 x2]).bind fun r0=>
 (go k impl_IsActive [.int .i64 x0,.int .i64 (D.toInt (nth r0 0))]).bind fun r1=>
 cond (bit (nth r1 0))
 (cond (decide (List.length (l7++[x2])≤bigLen))
 (lp k impl_Mesh_active [] fu 3 n (qzc x0 x1 (IntKind.wrap .i64 (x2+1)) z3 l4 x5 (z6&&decide (List.length (l7++[x2])=0)) (l7++[x2])))
 none)
 (lp k impl_Mesh_active [] fu 3 n (qzc x0 x1 (IntKind.wrap .i64 (x2+1)) z3 l4 x5 z6 l7)))
 (some [.arr true z6 (.ints .i64 l7)]):=by kernel_rfl
def qzq (x0 x1:Int)(z2:Bool)(l3:L3)(z4:Bool)(l5:LI)(z6:Bool)(l7:LI)(z8:Bool)(l9:LI)(x10:Int)(z11:Bool)(l12:LI)(z13:Bool)(l14:LI)(z15:Bool)(l16:LI)(z17:Bool)(l18:LI):St:=⟨fill 155 [(0,.ptr 4 0 0),(4,.sl 5 none),(5,.sl 6 none),(9,.ptr 8 0 0),(10,.ptr 10 0 0),(11,.fn impl_State_move_1 [.ptr 8 0 0,.ptr 10 0 0]),(69,.int .i64 x0),(70,.int .i64 x1)],[.ptr 4 0 0],[.arr true z2 (.r3 l3),.arr true z4 (.ints .i64 l5),.arr true z6 (.ints .i64 l7),.arr true z8 (.ints .i64 l9),sB true 0 x10,.arr true z11 (.ints .i64 l12),.arr true z13 (.ints .i64 l14),.arr true z15 (.ints .i64 l16),.box true [.sl 7 none],.arr true z17 (.ints .i64 l18),.box true [.sl 9 none]]⟩
def qzr (x0 x1:Int)(z2:Bool)(l3:L3)(z4:Bool)(l5:LI)(z6:Bool)(l7:LI)(z8:Bool)(l9:LI)(x10:Int)(z11:Bool)(l12:LI)(z13:Bool)(l14:LI):St:=⟨fill 155 [(0,.ptr 4 0 0),(9,.ptr 6 0 0),(10,.ptr 8 0 0),(124,.int .i64 x0),(125,.int .i64 x1)],[.ptr 4 0 0],[.arr true z2 (.r3 l3),.arr true z4 (.ints .i64 l5),.arr true z6 (.ints .i64 l7),.arr true z8 (.ints .i64 l9),sB true 0 x10,.arr true z11 (.ints .i64 l12),.box true [.sl 5 none],.arr true z13 (.ints .i64 l14),.box true [.sl 7 none]]⟩
def qzs (x0 x1:Int)(z2:Bool)(l3:L3)(z4:Bool)(l5:LI)(z6:Bool)(l7:LI)(z8:Bool)(l9:LI)(x10:Int)(z11:Bool)(l12:LI)(z13:Bool)(l14:LI)(z15:Bool)(l16:LI):St:=⟨fill 155 [(0,.ptr 4 0 0),(4,.sl 5 none),(5,.sl 6 none),(28,.sl 7 none),(29,.int .i64 x0),(30,.int .i64 x1)],[.ptr 4 0 0],[.arr true z2 (.r3 l3),.arr true z4 (.ints .i64 l5),.arr true z6 (.ints .i64 l7),.arr true z8 (.ints .i64 l9),sB true 0 x10,.arr true z11 (.ints .i64 l12),.arr true z13 (.ints .i64 l14),.arr false z15 (.ints .i64 l16)]⟩
theorem qkp (k:Nat)(a0:Int)(a1z:Bool)(a1:L3)(a2z:Bool)(a2:LI)(a3z:Bool)(a3:LI)(a4z:Bool)(a4:LI)(bz:Bool)(b:LI):go (k+1) impl_State_move [.ptr true [.int .i64 a0,.arr true a1z (.r3 a1),.arr true a2z (.ints .i64 a2),.arr true a3z (.ints .i64 a3),.arr true a4z (.ints .i64 a4)],.arr false bz (.ints .i64 b)]=
 cond (decide (0≤nI (List.length a2))&&decide (nI (List.length a2)≤nI (List.length a2))&&decide (nI (List.length a2)≤nI bigLen))
 (cond (decide (0≤nI (List.length a2))&&decide (nI (List.length a2)≤nI (List.length a2))&&decide (nI (List.length a2)≤nI bigLen))
 (lp k impl_State_move [.ptr true [.int .i64 a0,.arr true a1z (.r3 a1),.arr true a2z (.ints .i64 a2),.arr true a3z (.ints .i64 a3),.arr true a4z (.ints .i64 a4)]] [] 2 k (qzs (nI (List.length b)) 0 a1z a1 a2z a2 a3z a3 a4z a4 a0 false (List.replicate (Int.toNat (nI (List.length a2))) 0) false (List.replicate (Int.toNat (nI (List.length a2))) 0) bz b))
 none)
 none:=by kernel_rfl
theorem qrt (k n:Nat)(fu:FU)(a0:Int)(a1z:Bool)(a1:L3)(a2z:Bool)(a2:LI)(a3z:Bool)(a3:LI)(a4z:Bool)(a4:LI)(x0 x1:Int)(z2:Bool)(l3:L3)(z4:Bool)(l5:LI)(z6:Bool)(l7:LI)(z8:Bool)(l9:LI)(x10:Int)(z11:Bool)(l12:LI)(z13:Bool)(l14:LI)(z15:Bool)(l16:LI)(z17:Bool)(l18:LI):lp k impl_State_move [.ptr true [.int .i64 a0,.arr true a1z (.r3 a1),.arr true a2z (.ints .i64 a2),.arr true a3z (.ints .i64 a3),.arr true a4z (.ints .i64 a4)]] fu 12 (n+1) (qzq x0 x1 z2 l3 z4 l5 z6 l7 z8 l9 x10 z11 l12 z13 l14 z15 l16 z17 l18)=
 cond (decide (x1<x0))
 (cond (decide (0≤x1)&&decide (x1<nI (List.length l7)))
 (cond (decide (0≤x1)&&decide (x1<nI (List.length l5)))
 (cond (decide (0≤x1)&&decide (x1<nI (List.length l12)))
 (cond (decide (0≤x1)&&decide (x1<nI (List.length l14)))
 ((go k impl_LeafOut [.int .i64 (List.getD l7 (Int.toNat x1) 0),.int .i64 (List.getD l5 (Int.toNat x1) 0),.int .i64 (List.getD l12 (Int.toNat x1) 0),.int .i64 (List.getD l14 (Int.toNat x1) 0)]).bind fun r0=>
 cond (decide (0≤x1)&&decide (x1<nI (List.length l12)))
 ((go k impl_State_move_1 [.int .i64 x1,.int .i64 (IntKind.wrap .i64 (x1+1)),.int .i64 (List.getD l12 (Int.toNat x1) 0),.int .i64 (D.toInt (nth r0 0)),.ptr true [.arr true z15 (.ints .i64 l16)],.ptr true [.arr true z17 (.ints .i64 l18)]]).bind fun r1=>
 cond (decide (0≤x1)&&decide (x1<nI (List.length l14)))
 ((go k impl_State_move_1 [.int .i64 x1,.int .i64 (IntKind.wrap .i64 (x1 - 1)),.int .i64 (List.getD l14 (Int.toNat x1) 0),.int .i64 (D.toInt (nth r0 1)),.ptr true [.arr true (D.nil (D.cell 0 (nth r1 0))) (.ints .i64 (D.ints (D.cell 0 (nth r1 0))))],.ptr true [.arr true (D.nil (D.cell 0 (nth r1 1))) (.ints .i64 (D.ints (D.cell 0 (nth r1 1))))]]).bind fun r2=>
 lp k impl_State_move [.ptr true [.int .i64 a0,.arr true a1z (.r3 a1),.arr true a2z (.ints .i64 a2),.arr true a3z (.ints .i64 a3),.arr true a4z (.ints .i64 a4)]] fu 12 n (qzq x0 (IntKind.wrap .i64 (x1+1)) z2 l3 z4 l5 z6 l7 z8 l9 x10 z11 l12 z13 l14 (D.nil (D.cell 0 (nth r2 0))) (D.ints (D.cell 0 (nth r2 0))) (D.nil (D.cell 0 (nth r2 1))) (D.ints (D.cell 0 (nth r2 1)))))
 none)
 none)
 none)
 none)
 none)
 none)
 (lp k impl_State_move [.ptr true [.int .i64 a0,.arr true a1z (.r3 a1),.arr true a2z (.ints .i64 a2),.arr true a3z (.ints .i64 a3),.arr true a4z (.ints .i64 a4)]] fu 19 k (qzr (nI (List.length l5)) 0 z2 l3 z4 l5 z6 l7 z8 l9 x10 z15 l16 z17 l18)):=by kernel_rfl
theorem qru (k n:Nat)(fu:FU)(a0:Int)(a1z:Bool)(a1:L3)(a2z:Bool)(a2:LI)(a3z:Bool)(a3:LI)(a4z:Bool)(a4:LI)(x0 x1:Int)(z2:Bool)(l3:L3)(z4:Bool)(l5:LI)(z6:Bool)(l7:LI)(z8:Bool)(l9:LI)(x10:Int)(z11:Bool)(l12:LI)(z13:Bool)(l14:LI):lp k impl_State_move [.ptr true [.int .i64 a0,.arr true a1z (.r3 a1),.arr true a2z (.ints .i64 a2),.arr true a3z (.ints .i64 a3),.arr true a4z (.ints .i64 a4)]] fu 19 (n+1) (qzr x0 x1 z2 l3 z4 l5 z6 l7 z8 l9 x10 z11 l12 z13 l14)=
 cond (decide (x1<x0))
 (cond (decide (0≤x1)&&decide (x1<nI (List.length l5)))
 (cond (decide (0≤x1)&&decide (x1<nI (List.length l12)))
 (cond (decide (0≤x1)&&decide (x1<nI (List.length l5)))
 (cond (decide (0≤x1)&&decide (x1<nI (List.length l7)))
 (cond (decide (0≤x1)&&decide (x1<nI (List.length l14)))
 (cond (decide (0≤x1)&&decide (x1<nI (List.length l7)))
 (lp k impl_State_move [.ptr true [.int .i64 a0,.arr true a1z (.r3 a1),.arr true a2z (.ints .i64 a2),.arr true a3z (.ints .i64 a3),.arr true a4z (.ints .i64 a4)]] fu 19 n (qzr x0 (IntKind.wrap .i64 (x1+1)) z2 l3 z4 (List.set l5 (Int.toNat x1) (IntKind.wrap .i64 (List.getD l5 (Int.toNat x1) 0+List.getD l12 (Int.toNat x1) 0))) z6 (List.set l7 (Int.toNat x1) (IntKind.wrap .i64 (List.getD l7 (Int.toNat x1) 0+List.getD l14 (Int.toNat x1) 0))) z8 l9 x10 z11 l12 z13 l14))
 none)
 none)
 none)
 none)
 none)
 none)
 (some [.ptr true [.int .i64 x10,.arr true z2 (.r3 l3),.arr true z4 (.ints .i64 l5),.arr true z6 (.ints .i64 l7),.arr true z8 (.ints .i64 l9)]]):=by kernel_rfl
theorem qrv (k n:Nat)(fu:FU)(a0:Int)(a1z:Bool)(a1:L3)(a2z:Bool)(a2:LI)(a3z:Bool)(a3:LI)(a4z:Bool)(a4:LI)(x0 x1:Int)(z2:Bool)(l3:L3)(z4:Bool)(l5:LI)(z6:Bool)(l7:LI)(z8:Bool)(l9:LI)(x10:Int)(z11:Bool)(l12:LI)(z13:Bool)(l14:LI)(z15:Bool)(l16:LI):lp k impl_State_move [.ptr true [.int .i64 a0,.arr true a1z (.r3 a1),.arr true a2z (.ints .i64 a2),.arr true a3z (.ints .i64 a3),.arr true a4z (.ints .i64 a4)]] fu 2 (n+1) (qzs x0 x1 z2 l3 z4 l5 z6 l7 z8 l9 x10 z11 l12 z13 l14 z15 l16)=
 cond (decide (x1<x0))
 (cond (decide (0≤x1)&&decide (x1<nI (List.length l16)))
 ((go k impl_State_flux [sV false x10 z2 l3 z4 l5 z6 l7 z8 l9,.int .i64 (List.getD l16 (Int.toNat x1) 0)]).bind fun r0=>
 cond (decide (0<D.toInt (nth r0 0)))
 (cond (decide (0≤List.getD l16 (Int.toNat x1) 0)&&decide (List.getD l16 (Int.toNat x1) 0<nI (List.length l12)))
 (lp k impl_State_move [.ptr true [.int .i64 a0,.arr true a1z (.r3 a1),.arr true a2z (.ints .i64 a2),.arr true a3z (.ints .i64 a3),.arr true a4z (.ints .i64 a4)]] fu 2 n (qzs x0 (IntKind.wrap .i64 (x1+1)) z2 l3 z4 l5 z6 l7 z8 l9 x10 z11 (List.set l12 (Int.toNat (List.getD l16 (Int.toNat x1) 0)) (D.toInt (nth r0 0))) z13 l14 z15 l16))
 none)
 (cond (decide (0≤IntKind.wrap .i64 (List.getD l16 (Int.toNat x1) 0+1))&&decide (IntKind.wrap .i64 (List.getD l16 (Int.toNat x1) 0+1)<nI (List.length l14)))
 (lp k impl_State_move [.ptr true [.int .i64 a0,.arr true a1z (.r3 a1),.arr true a2z (.ints .i64 a2),.arr true a3z (.ints .i64 a3),.arr true a4z (.ints .i64 a4)]] fu 2 n (qzs x0 (IntKind.wrap .i64 (x1+1)) z2 l3 z4 l5 z6 l7 z8 l9 x10 z11 l12 z13 (List.set l14 (Int.toNat (IntKind.wrap .i64 (List.getD l16 (Int.toNat x1) 0+1))) (IntKind.wrap .i64 (0 - D.toInt (nth r0 0)))) z15 l16))
 none))
 none)
 (cond (decide (0≤nI (List.length l5))&&decide (nI (List.length l5)≤nI (List.length l5))&&decide (nI (List.length l5)≤nI bigLen))
 (cond (decide (0≤nI (List.length l5))&&decide (nI (List.length l5)≤nI (List.length l5))&&decide (nI (List.length l5)≤nI bigLen))
 (lp k impl_State_move [.ptr true [.int .i64 a0,.arr true a1z (.r3 a1),.arr true a2z (.ints .i64 a2),.arr true a3z (.ints .i64 a3),.arr true a4z (.ints .i64 a4)]] fu 12 k (qzq (nI (List.length l5)) 0 z2 l3 z4 l5 z6 l7 z8 l9 x10 z11 l12 z13 l14 false (List.replicate (Int.toNat (nI (List.length l5))) 0) false (List.replicate (Int.toNat (nI (List.length l5))) 0)))
 none)
 none):=by kernel_rfl
theorem qkq (k:Nat)(v0 v1 v2 v3:Int)(v4:Bool)(v5:LI)(v6:Bool)(v7:LI):go (k+1) impl_State_move_1 [.int .i64 v0,.int .i64 v1,.int .i64 v2,.int .i64 v3,.ptr true [.arr true v4 (.ints .i64 v5)],.ptr true [.arr true v6 (.ints .i64 v7)]]=
 cond (decide (0<v2))
 (cond (decide (0≤v0)&&decide (v0<nI (List.length v5)))
 (cond (decide (0≤v0)&&decide (v0<nI (List.length v5)))
 (cond (decide (0≤v1)&&decide (v1<nI (List.length (List.set v5 (Int.toNat v0) (IntKind.wrap .i64 (List.getD v5 (Int.toNat v0) 0 - v2))))))
 (cond (decide (0≤v1)&&decide (v1<nI (List.length (List.set v5 (Int.toNat v0) (IntKind.wrap .i64 (List.getD v5 (Int.toNat v0) 0 - v2))))))
 (cond (decide (0≤v0)&&decide (v0<nI (List.length v7)))
 (cond (decide (0≤v0)&&decide (v0<nI (List.length v7)))
 (cond (decide (0≤v1)&&decide (v1<nI (List.length (List.set v7 (Int.toNat v0) (IntKind.wrap .i64 (List.getD v7 (Int.toNat v0) 0 - v3))))))
 (cond (decide (0≤v1)&&decide (v1<nI (List.length (List.set v7 (Int.toNat v0) (IntKind.wrap .i64 (List.getD v7 (Int.toNat v0) 0 - v3))))))
 (some [.ptr true [.arr true v4 (.ints .i64 (List.set (List.set v5 (Int.toNat v0) (IntKind.wrap .i64 (List.getD v5 (Int.toNat v0) 0 - v2))) (Int.toNat v1) (IntKind.wrap .i64 (List.getD (List.set v5 (Int.toNat v0) (IntKind.wrap .i64 (List.getD v5 (Int.toNat v0) 0 - v2))) (Int.toNat v1) 0+v2))))],.ptr true [.arr true v6 (.ints .i64 (List.set (List.set v7 (Int.toNat v0) (IntKind.wrap .i64 (List.getD v7 (Int.toNat v0) 0 - v3))) (Int.toNat v1) (IntKind.wrap .i64 (List.getD (List.set v7 (Int.toNat v0) (IntKind.wrap .i64 (List.getD v7 (Int.toNat v0) 0 - v3))) (Int.toNat v1) 0+v3))))]])
 none)
 none)
 none)
 none)
 none)
 none)
 none)
 none)
 (some [.ptr true [.arr true v4 (.ints .i64 v5)],.ptr true [.arr true v6 (.ints .i64 v7)]]):=by kernel_rfl

end Go.Proofs.YtjfjniebmdafeaaGreatDoor
end
section
namespace Go.Proofs.YtjfjniebmdafeaaGreatDoor
open Go.Ev
theorem qn7 (k:Nat)(a b c d e f:Int):go (k+1) spec_l09Pair [.int .i64 a,.int .i64 b,.int .i64 c,.int .i64 d,.int .i64 e,.int .i64 f]=
 (go k spec_WidthOf [.int .i64 (if f>e then f else e)]).bind fun r0=>
 (go k spec_WidthOf [.int .i64 e]).bind fun r1=>
 (go k spec_WidthOf [.int .i64 f]).bind fun r2=>
 (go k spec_DivTrunc [.int .i64 (IntKind.wrap .i64 (IntKind.wrap .i64 (a - b)*D.toInt (nth r0 0))),.int .i64 (IntKind.wrap .i64 (32*IntKind.wrap .i64 (D.toInt (nth r1 0)+D.toInt (nth r2 0))))]).bind fun r3=>
 some [.int .i64 (if IntKind.wrap .i64 (0 - IntKind.wrap .i64 (Int.tdiv d 4))>if IntKind.wrap .i64 (Int.tdiv c 4)<D.toInt (nth r3 0) then IntKind.wrap .i64 (Int.tdiv c 4) else D.toInt (nth r3 0) then IntKind.wrap .i64 (0 - IntKind.wrap .i64 (Int.tdiv d 4)) else if IntKind.wrap .i64 (Int.tdiv c 4)<D.toInt (nth r3 0) then IntKind.wrap .i64 (Int.tdiv c 4) else D.toInt (nth r3 0))]:=by kernel_rfl
theorem qn5 (k:Nat)(a0:Int)(a1z:Bool)(a1:L3)(a2z:Bool)(a2:LI)(a3z:Bool)(a3:LI)(a4z:Bool)(a4:LI)(b:Int):go (k+1) spec_l09Flux [sV false a0 a1z a1 a2z a2 a3z a3 a4z a4,.int .i64 b]=
 (go k spec_l09Surface [sV false a0 a1z a1 a2z a2 a3z a3 a4z a4,.int .i64 b]).bind fun r0=>
 (go k spec_l09Surface [sV false a0 a1z a1 a2z a2 a3z a3 a4z a4,.int .i64 (IntKind.wrap .i64 (b+1))]).bind fun r1=>
 cond (decide (0≤b)&&decide (b<nI (List.length a2)))
 (cond (decide (0≤IntKind.wrap .i64 (b+1))&&decide (IntKind.wrap .i64 (b+1)<nI (List.length a2)))
 (cond (decide (0≤b)&&decide (b<nI (List.length a1)))
 (cond (decide (0≤IntKind.wrap .i64 (b+1))&&decide (IntKind.wrap .i64 (b+1)<nI (List.length a1)))
 ((go k spec_l09Pair [.int .i64 (D.toInt (nth r0 0)),.int .i64 (D.toInt (nth r1 0)),.int .i64 (List.getD a2 (Int.toNat b) 0),.int .i64 (List.getD a2 (Int.toNat (IntKind.wrap .i64 (b+1))) 0),.int .i64 (Prod.fst (Prod.snd (List.getD a1 (Int.toNat b) zz3))),.int .i64 (Prod.fst (Prod.snd (List.getD a1 (Int.toNat (IntKind.wrap .i64 (b+1))) zz3)))]).bind fun r2=>
 some [.int .i64 (D.toInt (nth r2 0))])
 none)
 none)
 none)
 none:=by kernel_rfl
theorem qnb (k:Nat)(a b c d:Int):go (k+1) spec_LeafOut [.int .i64 a,.int .i64 b,.int .i64 c,.int .i64 d]=
 (go k spec_l01In [.int .i64 b,.int .i64 1,.int .i64 10000000]).bind fun r0=>
 cond (!bit (nth r0 0))
 (some [.int .i64 0,.int .i64 0])
 ((go k spec_l01In [.int .i64 a,.int .i64 0,.int .i64 (IntKind.wrap .i64 (1000*b))]).bind fun r1=>
 cond (!bit (nth r1 0))
 (some [.int .i64 0,.int .i64 0])
 ((go k spec_l01In [.int .i64 c,.int .i64 0,.int .i64 b]).bind fun r2=>
 cond (!bit (nth r2 0))
 (some [.int .i64 0,.int .i64 0])
 ((go k spec_l01In [.int .i64 d,.int .i64 0,.int .i64 (IntKind.wrap .i64 (b - c))]).bind fun r3=>
 cond (!bit (nth r3 0))
 (some [.int .i64 0,.int .i64 0])
 ((go k spec_ShareOut [.int .i64 a,.int .i64 c,.int .i64 b]).bind fun r4=>
 (go k spec_ShareOut [.int .i64 a,.int .i64 (IntKind.wrap .i64 (c+d)),.int .i64 b]).bind fun r5=>
 some [.int .i64 (D.toInt (nth r4 0)),.int .i64 (IntKind.wrap .i64 (D.toInt (nth r5 0) - D.toInt (nth r4 0)))])))):=by kernel_rfl
theorem qnj (k:Nat)(a b c:Int):go (k+1) spec_ShareOut [.int .i64 a,.int .i64 b,.int .i64 c]=
 (go k spec_l01In [.int .i64 c,.int .i64 1,.int .i64 10000000]).bind fun r0=>
 cond (!bit (nth r0 0))
 (some [.int .i64 0])
 ((go k spec_l01In [.int .i64 b,.int .i64 0,.int .i64 c]).bind fun r1=>
 cond (!bit (nth r1 0))
 (some [.int .i64 0])
 ((go k spec_l01In [.int .i64 a,.int .i64 0,.int .i64 (IntKind.wrap .i64 (1000*c))]).bind fun r2=>
 cond (!bit (nth r2 0))
 (some [.int .i64 0])
 (cond (!decide (c=0))
 (some [.int .i64 (IntKind.wrap .i64 (Int.tdiv (IntKind.wrap .i64 (a*b)) c))])
 none))):=by kernel_rfl
theorem qmy (k:Nat)(a b:Int):go (k+1) spec_DivTrunc [.int .i64 a,.int .i64 b]=
 cond (decide (b≤0))
 (some [.int .i64 0])
 (cond (!decide (b=0))
 (some [.int .i64 (IntKind.wrap .i64 (Int.tdiv a b))])
 none):=by kernel_rfl
def q0v (x0:Int)(z1:Bool)(l2:L3)(z3:Bool)(l4:LI)(z5:Bool)(l6:LI)(z7:Bool)(l8:LI)(x9:Int)(z10:Bool)(l11:L3)(z12:Bool)(l13:LI)(z14:Bool)(l15:LI)(z16:Bool)(l17:LI)(x18:Int)(z19:Bool)(l20:L3)(z21:Bool)(l22:LI)(z23:Bool)(l24:LI)(z25:Bool)(l26:LI)(x27:Int)(z28:Bool)(l29:LI):St:=⟨fill 151 [(2,.ptr 4 0 0),(4,.ptr 9 0 0),(5,.ptr 14 0 0),(6,.sl 15 none),(8,.int .i64 x0)],[],[.arr false z1 (.r3 l2),.arr false z3 (.ints .i64 l4),.arr false z5 (.ints .i64 l6),.arr false z7 (.ints .i64 l8),sB true 0 x9,.arr true z10 (.r3 l11),.arr true z12 (.ints .i64 l13),.arr true z14 (.ints .i64 l15),.arr true z16 (.ints .i64 l17),sB true 5 x18,.arr true z19 (.r3 l20),.arr true z21 (.ints .i64 l22),.arr true z23 (.ints .i64 l24),.arr true z25 (.ints .i64 l26),sB true 10 x27,.arr true z28 (.ints .i64 l29)]⟩
def q0w (x0 x1:Int)(z2:Bool)(l3:L3)(z4:Bool)(l5:LI)(z6:Bool)(l7:LI)(z8:Bool)(l9:LI)(x10:Int)(z11:Bool)(l12:L3)(z13:Bool)(l14:LI)(z15:Bool)(l16:LI)(z17:Bool)(l18:LI)(x19:Int)(z20:Bool)(l21:L3)(z22:Bool)(l23:LI)(z24:Bool)(l25:LI)(z26:Bool)(l27:LI)(x28:Int)(z29:Bool)(l30:LI):St:=⟨fill 151 [(1,.int .i64 x0),(2,.ptr 4 0 0),(4,.ptr 9 0 0),(5,.ptr 14 0 0),(6,.sl 15 none),(7,.int .i64 x1)],[],[.arr false z2 (.r3 l3),.arr false z4 (.ints .i64 l5),.arr false z6 (.ints .i64 l7),.arr false z8 (.ints .i64 l9),sB true 0 x10,.arr true z11 (.r3 l12),.arr true z13 (.ints .i64 l14),.arr true z15 (.ints .i64 l16),.arr true z17 (.ints .i64 l18),sB true 5 x19,.arr true z20 (.r3 l21),.arr true z22 (.ints .i64 l23),.arr true z24 (.ints .i64 l25),.arr true z26 (.ints .i64 l27),sB true 10 x28,.arr true z29 (.ints .i64 l30)]⟩
theorem qn9 (k:Nat)(a0:Int)(a1z:Bool)(a1:L3)(a2z:Bool)(a2:LI)(a3z:Bool)(a3:LI)(a4z:Bool)(a4:LI)(b:Int):go (k+1) spec_l11Step [sV false a0 a1z a1 a2z a2 a3z a3 a4z a4,.int .i64 b]=
 (go k spec_l07Copy [sV false a0 a1z a1 a2z a2 a3z a3 a4z a4]).bind fun r0=>
 cond (decide (0≤nI (List.length a2))&&decide (nI (List.length a2)≤nI (List.length a2))&&decide (nI (List.length a2)≤nI bigLen))
 (lp k spec_l11Step [] [] 4 k (sA (q0w b 0 a1z a1 a2z a2 a3z a3 a4z a4 a0 true [] true [] true [] true [] 0) (nth r0 0) false (List.replicate (Int.toNat (nI (List.length a2))) 0)))
 none:=by kernel_rfl
theorem qsy (k n:Nat)(fu:FU)(x0:Int)(z1:Bool)(l2:L3)(z3:Bool)(l4:LI)(z5:Bool)(l6:LI)(z7:Bool)(l8:LI)(x9:Int)(z10:Bool)(l11:L3)(z12:Bool)(l13:LI)(z14:Bool)(l15:LI)(z16:Bool)(l17:LI)(x18:Int)(z19:Bool)(l20:L3)(z21:Bool)(l22:LI)(z23:Bool)(l24:LI)(z25:Bool)(l26:LI)(x27:Int)(z28:Bool)(l29:LI):lp k spec_l11Step [] fu 11 (n+1) (q0v x0 z1 l2 z3 l4 z5 l6 z7 l8 x9 z10 l11 z12 l13 z14 l15 z16 l17 x18 z19 l20 z21 l22 z23 l24 z25 l26 x27 z28 l29)=
 cond (decide (x0<nI (List.length l4)))
 (cond (decide (0≤x0)&&decide (x0<nI (List.length l29)))
 (cond (decide (0<x0))
 (cond (decide (0≤IntKind.wrap .i64 (x0 - 1))&&decide (IntKind.wrap .i64 (x0 - 1)<nI (List.length l29)))
 (cond (decide (0≤x0)&&decide (x0<nI (List.length l6)))
 (cond (decide (0≤x0)&&decide (x0<nI (List.length l4)))
 ((go k spec_LeafOut [.int .i64 (List.getD l6 (Int.toNat x0) 0),.int .i64 (List.getD l4 (Int.toNat x0) 0),.int .i64 (if 0>List.getD l29 (Int.toNat x0) 0 then 0 else List.getD l29 (Int.toNat x0) 0),.int .i64 (if 0>IntKind.wrap .i64 (0 - List.getD l29 (Int.toNat (IntKind.wrap .i64 (x0 - 1))) 0) then 0 else IntKind.wrap .i64 (0 - List.getD l29 (Int.toNat (IntKind.wrap .i64 (x0 - 1))) 0))]).bind fun r0=>
 cond (decide (0≤x0)&&decide (x0<nI (List.length l24)))
 (cond (decide (0≤x0)&&decide (x0<nI (List.length l24)))
 (cond (decide (0<if 0>List.getD l29 (Int.toNat x0) 0 then 0 else List.getD l29 (Int.toNat x0) 0))
 (cond (decide (0≤IntKind.wrap .i64 (x0+1))&&decide (IntKind.wrap .i64 (x0+1)<nI (List.length (List.set l24 (Int.toNat x0) (IntKind.wrap .i64 (IntKind.wrap .i64 (List.getD l24 (Int.toNat x0) 0 - D.toInt (nth r0 0)) - D.toInt (nth r0 1)))))))
 (cond (decide (0≤IntKind.wrap .i64 (x0+1))&&decide (IntKind.wrap .i64 (x0+1)<nI (List.length (List.set l24 (Int.toNat x0) (IntKind.wrap .i64 (IntKind.wrap .i64 (List.getD l24 (Int.toNat x0) 0 - D.toInt (nth r0 0)) - D.toInt (nth r0 1)))))))
 (cond (decide (0<if 0>IntKind.wrap .i64 (0 - List.getD l29 (Int.toNat (IntKind.wrap .i64 (x0 - 1))) 0) then 0 else IntKind.wrap .i64 (0 - List.getD l29 (Int.toNat (IntKind.wrap .i64 (x0 - 1))) 0)))
 (cond (decide (0≤IntKind.wrap .i64 (x0 - 1))&&decide (IntKind.wrap .i64 (x0 - 1)<nI (List.length (List.set (List.set l24 (Int.toNat x0) (IntKind.wrap .i64 (IntKind.wrap .i64 (List.getD l24 (Int.toNat x0) 0 - D.toInt (nth r0 0)) - D.toInt (nth r0 1)))) (Int.toNat (IntKind.wrap .i64 (x0+1))) (IntKind.wrap .i64 (List.getD (List.set l24 (Int.toNat x0) (IntKind.wrap .i64 (IntKind.wrap .i64 (List.getD l24 (Int.toNat x0) 0 - D.toInt (nth r0 0)) - D.toInt (nth r0 1)))) (Int.toNat (IntKind.wrap .i64 (x0+1))) 0+D.toInt (nth r0 0)))))))
 (cond (decide (0≤IntKind.wrap .i64 (x0 - 1))&&decide (IntKind.wrap .i64 (x0 - 1)<nI (List.length (List.set (List.set l24 (Int.toNat x0) (IntKind.wrap .i64 (IntKind.wrap .i64 (List.getD l24 (Int.toNat x0) 0 - D.toInt (nth r0 0)) - D.toInt (nth r0 1)))) (Int.toNat (IntKind.wrap .i64 (x0+1))) (IntKind.wrap .i64 (List.getD (List.set l24 (Int.toNat x0) (IntKind.wrap .i64 (IntKind.wrap .i64 (List.getD l24 (Int.toNat x0) 0 - D.toInt (nth r0 0)) - D.toInt (nth r0 1)))) (Int.toNat (IntKind.wrap .i64 (x0+1))) 0+D.toInt (nth r0 0)))))))
 (lp k spec_l11Step [] fu 11 n (q0v (IntKind.wrap .i64 (x0+1)) z1 l2 z3 l4 z5 l6 z7 l8 x9 z10 l11 z12 l13 z14 l15 z16 l17 x18 z19 l20 z21 l22 z23 (List.set (List.set (List.set l24 (Int.toNat x0) (IntKind.wrap .i64 (IntKind.wrap .i64 (List.getD l24 (Int.toNat x0) 0 - D.toInt (nth r0 0)) - D.toInt (nth r0 1)))) (Int.toNat (IntKind.wrap .i64 (x0+1))) (IntKind.wrap .i64 (List.getD (List.set l24 (Int.toNat x0) (IntKind.wrap .i64 (IntKind.wrap .i64 (List.getD l24 (Int.toNat x0) 0 - D.toInt (nth r0 0)) - D.toInt (nth r0 1)))) (Int.toNat (IntKind.wrap .i64 (x0+1))) 0+D.toInt (nth r0 0)))) (Int.toNat (IntKind.wrap .i64 (x0 - 1))) (IntKind.wrap .i64 (List.getD (List.set (List.set l24 (Int.toNat x0) (IntKind.wrap .i64 (IntKind.wrap .i64 (List.getD l24 (Int.toNat x0) 0 - D.toInt (nth r0 0)) - D.toInt (nth r0 1)))) (Int.toNat (IntKind.wrap .i64 (x0+1))) (IntKind.wrap .i64 (List.getD (List.set l24 (Int.toNat x0) (IntKind.wrap .i64 (IntKind.wrap .i64 (List.getD l24 (Int.toNat x0) 0 - D.toInt (nth r0 0)) - D.toInt (nth r0 1)))) (Int.toNat (IntKind.wrap .i64 (x0+1))) 0+D.toInt (nth r0 0)))) (Int.toNat (IntKind.wrap .i64 (x0 - 1))) 0+D.toInt (nth r0 1)))) z25 l26 x27 z28 l29))
 none)
 none)
 (lp k spec_l11Step [] fu 11 n (q0v (IntKind.wrap .i64 (x0+1)) z1 l2 z3 l4 z5 l6 z7 l8 x9 z10 l11 z12 l13 z14 l15 z16 l17 x18 z19 l20 z21 l22 z23 (List.set (List.set l24 (Int.toNat x0) (IntKind.wrap .i64 (IntKind.wrap .i64 (List.getD l24 (Int.toNat x0) 0 - D.toInt (nth r0 0)) - D.toInt (nth r0 1)))) (Int.toNat (IntKind.wrap .i64 (x0+1))) (IntKind.wrap .i64 (List.getD (List.set l24 (Int.toNat x0) (IntKind.wrap .i64 (IntKind.wrap .i64 (List.getD l24 (Int.toNat x0) 0 - D.toInt (nth r0 0)) - D.toInt (nth r0 1)))) (Int.toNat (IntKind.wrap .i64 (x0+1))) 0+D.toInt (nth r0 0)))) z25 l26 x27 z28 l29)))
 none)
 none)
 (cond (decide (0<if 0>IntKind.wrap .i64 (0 - List.getD l29 (Int.toNat (IntKind.wrap .i64 (x0 - 1))) 0) then 0 else IntKind.wrap .i64 (0 - List.getD l29 (Int.toNat (IntKind.wrap .i64 (x0 - 1))) 0)))
 (cond (decide (0≤IntKind.wrap .i64 (x0 - 1))&&decide (IntKind.wrap .i64 (x0 - 1)<nI (List.length (List.set l24 (Int.toNat x0) (IntKind.wrap .i64 (IntKind.wrap .i64 (List.getD l24 (Int.toNat x0) 0 - D.toInt (nth r0 0)) - D.toInt (nth r0 1)))))))
 (cond (decide (0≤IntKind.wrap .i64 (x0 - 1))&&decide (IntKind.wrap .i64 (x0 - 1)<nI (List.length (List.set l24 (Int.toNat x0) (IntKind.wrap .i64 (IntKind.wrap .i64 (List.getD l24 (Int.toNat x0) 0 - D.toInt (nth r0 0)) - D.toInt (nth r0 1)))))))
 (lp k spec_l11Step [] fu 11 n (q0v (IntKind.wrap .i64 (x0+1)) z1 l2 z3 l4 z5 l6 z7 l8 x9 z10 l11 z12 l13 z14 l15 z16 l17 x18 z19 l20 z21 l22 z23 (List.set (List.set l24 (Int.toNat x0) (IntKind.wrap .i64 (IntKind.wrap .i64 (List.getD l24 (Int.toNat x0) 0 - D.toInt (nth r0 0)) - D.toInt (nth r0 1)))) (Int.toNat (IntKind.wrap .i64 (x0 - 1))) (IntKind.wrap .i64 (List.getD (List.set l24 (Int.toNat x0) (IntKind.wrap .i64 (IntKind.wrap .i64 (List.getD l24 (Int.toNat x0) 0 - D.toInt (nth r0 0)) - D.toInt (nth r0 1)))) (Int.toNat (IntKind.wrap .i64 (x0 - 1))) 0+D.toInt (nth r0 1)))) z25 l26 x27 z28 l29))
 none)
 none)
 (lp k spec_l11Step [] fu 11 n (q0v (IntKind.wrap .i64 (x0+1)) z1 l2 z3 l4 z5 l6 z7 l8 x9 z10 l11 z12 l13 z14 l15 z16 l17 x18 z19 l20 z21 l22 z23 (List.set l24 (Int.toNat x0) (IntKind.wrap .i64 (IntKind.wrap .i64 (List.getD l24 (Int.toNat x0) 0 - D.toInt (nth r0 0)) - D.toInt (nth r0 1)))) z25 l26 x27 z28 l29))))
 none)
 none)
 none)
 none)
 none)
 (cond (decide (0≤x0)&&decide (x0<nI (List.length l6)))
 (cond (decide (0≤x0)&&decide (x0<nI (List.length l4)))
 ((go k spec_LeafOut [.int .i64 (List.getD l6 (Int.toNat x0) 0),.int .i64 (List.getD l4 (Int.toNat x0) 0),.int .i64 (if 0>List.getD l29 (Int.toNat x0) 0 then 0 else List.getD l29 (Int.toNat x0) 0),.int .i64 0]).bind fun r1=>
 cond (decide (0≤x0)&&decide (x0<nI (List.length l24)))
 (cond (decide (0≤x0)&&decide (x0<nI (List.length l24)))
 (cond (decide (0<if 0>List.getD l29 (Int.toNat x0) 0 then 0 else List.getD l29 (Int.toNat x0) 0))
 (cond (decide (0≤IntKind.wrap .i64 (x0+1))&&decide (IntKind.wrap .i64 (x0+1)<nI (List.length (List.set l24 (Int.toNat x0) (IntKind.wrap .i64 (IntKind.wrap .i64 (List.getD l24 (Int.toNat x0) 0 - D.toInt (nth r1 0)) - D.toInt (nth r1 1)))))))
 (cond (decide (0≤IntKind.wrap .i64 (x0+1))&&decide (IntKind.wrap .i64 (x0+1)<nI (List.length (List.set l24 (Int.toNat x0) (IntKind.wrap .i64 (IntKind.wrap .i64 (List.getD l24 (Int.toNat x0) 0 - D.toInt (nth r1 0)) - D.toInt (nth r1 1)))))))
 (lp k spec_l11Step [] fu 11 n (q0v (IntKind.wrap .i64 (x0+1)) z1 l2 z3 l4 z5 l6 z7 l8 x9 z10 l11 z12 l13 z14 l15 z16 l17 x18 z19 l20 z21 l22 z23 (List.set (List.set l24 (Int.toNat x0) (IntKind.wrap .i64 (IntKind.wrap .i64 (List.getD l24 (Int.toNat x0) 0 - D.toInt (nth r1 0)) - D.toInt (nth r1 1)))) (Int.toNat (IntKind.wrap .i64 (x0+1))) (IntKind.wrap .i64 (List.getD (List.set l24 (Int.toNat x0) (IntKind.wrap .i64 (IntKind.wrap .i64 (List.getD l24 (Int.toNat x0) 0 - D.toInt (nth r1 0)) - D.toInt (nth r1 1)))) (Int.toNat (IntKind.wrap .i64 (x0+1))) 0+D.toInt (nth r1 0)))) z25 l26 x27 z28 l29))
 none)
 none)
 (lp k spec_l11Step [] fu 11 n (q0v (IntKind.wrap .i64 (x0+1)) z1 l2 z3 l4 z5 l6 z7 l8 x9 z10 l11 z12 l13 z14 l15 z16 l17 x18 z19 l20 z21 l22 z23 (List.set l24 (Int.toNat x0) (IntKind.wrap .i64 (IntKind.wrap .i64 (List.getD l24 (Int.toNat x0) 0 - D.toInt (nth r1 0)) - D.toInt (nth r1 1)))) z25 l26 x27 z28 l29)))
 none)
 none)
 none)
 none))
 none)
 (some [sV true x27 z19 l20 z21 l22 z23 l24 z25 l26]):=by kernel_rfl
theorem qsz (k n:Nat)(fu:FU)(x0 x1:Int)(z2:Bool)(l3:L3)(z4:Bool)(l5:LI)(z6:Bool)(l7:LI)(z8:Bool)(l9:LI)(x10:Int)(z11:Bool)(l12:L3)(z13:Bool)(l14:LI)(z15:Bool)(l16:LI)(z17:Bool)(l18:LI)(x19:Int)(z20:Bool)(l21:L3)(z22:Bool)(l23:LI)(z24:Bool)(l25:LI)(z26:Bool)(l27:LI)(x28:Int)(z29:Bool)(l30:LI):lp k spec_l11Step [] fu 4 (n+1) (q0w x0 x1 z2 l3 z4 l5 z6 l7 z8 l9 x10 z11 l12 z13 l14 z15 l16 z17 l18 x19 z20 l21 z22 l23 z24 l25 z26 l27 x28 z29 l30)=
 cond (decide (IntKind.wrap .i64 (x1+1)<nI (List.length l5)))
 ((go k spec_l05Face [.agg [.int .i64 x10,.arr false z2 (.r3 l3)],.int .i64 x1]).bind fun r0=>
 (go k spec_IsActive [.int .i64 x0,.int .i64 (D.toInt (nth r0 0))]).bind fun r1=>
 cond (!bit (nth r1 0))
 (lp k spec_l11Step [] fu 4 n (q0w x0 (IntKind.wrap .i64 (x1+1)) z2 l3 z4 l5 z6 l7 z8 l9 x10 z11 l12 z13 l14 z15 l16 z17 l18 x19 z20 l21 z22 l23 z24 l25 z26 l27 x28 z29 l30))
 ((go k spec_l09Flux [sV false x10 z2 l3 z4 l5 z6 l7 z8 l9,.int .i64 x1]).bind fun r2=>
 cond (decide (0≤x1)&&decide (x1<nI (List.length l30)))
 (cond (decide (0≤x1)&&decide (x1<nI (List.length l23)))
 (cond (decide (0≤x1)&&decide (x1<nI (List.length (List.set l30 (Int.toNat x1) (D.toInt (nth r2 0))))))
 (cond (decide (0≤x1)&&decide (x1<nI (List.length l23)))
 (cond (decide (0≤IntKind.wrap .i64 (x1+1))&&decide (IntKind.wrap .i64 (x1+1)<nI (List.length (List.set l23 (Int.toNat x1) (IntKind.wrap .i64 (List.getD l23 (Int.toNat x1) 0 - List.getD (List.set l30 (Int.toNat x1) (D.toInt (nth r2 0))) (Int.toNat x1) 0))))))
 (cond (decide (0≤x1)&&decide (x1<nI (List.length (List.set l30 (Int.toNat x1) (D.toInt (nth r2 0))))))
 (cond (decide (0≤IntKind.wrap .i64 (x1+1))&&decide (IntKind.wrap .i64 (x1+1)<nI (List.length (List.set l23 (Int.toNat x1) (IntKind.wrap .i64 (List.getD l23 (Int.toNat x1) 0 - List.getD (List.set l30 (Int.toNat x1) (D.toInt (nth r2 0))) (Int.toNat x1) 0))))))
 (lp k spec_l11Step [] fu 4 n (q0w x0 (IntKind.wrap .i64 (x1+1)) z2 l3 z4 l5 z6 l7 z8 l9 x10 z11 l12 z13 l14 z15 l16 z17 l18 x19 z20 l21 z22 (List.set (List.set l23 (Int.toNat x1) (IntKind.wrap .i64 (List.getD l23 (Int.toNat x1) 0 - List.getD (List.set l30 (Int.toNat x1) (D.toInt (nth r2 0))) (Int.toNat x1) 0))) (Int.toNat (IntKind.wrap .i64 (x1+1))) (IntKind.wrap .i64 (List.getD (List.set l23 (Int.toNat x1) (IntKind.wrap .i64 (List.getD l23 (Int.toNat x1) 0 - List.getD (List.set l30 (Int.toNat x1) (D.toInt (nth r2 0))) (Int.toNat x1) 0))) (Int.toNat (IntKind.wrap .i64 (x1+1))) 0+List.getD (List.set l30 (Int.toNat x1) (D.toInt (nth r2 0))) (Int.toNat x1) 0))) z24 l25 z26 l27 x28 z29 (List.set l30 (Int.toNat x1) (D.toInt (nth r2 0)))))
 none)
 none)
 none)
 none)
 none)
 none)
 none))
 (lp k spec_l11Step [] fu 11 k (q0v 0 z2 l3 z4 l5 z6 l7 z8 l9 x10 z11 l12 z13 l14 z15 l16 z17 l18 x19 z20 l21 z22 l23 z24 l25 z26 l27 x28 z29 l30)):=by kernel_rfl

end Go.Proofs.YtjfjniebmdafeaaGreatDoor
end
section
namespace Go.Proofs.YtjfjniebmdafeaaGreatDoor
open Go.Ev
theorem qgm (k:Nat)(hk:2000000≤k)(a0:Int)(a1z:Bool)(a1:List (Int×Int×Int))(h1:(a1.length:Int)≤1048576):go (k+1) spec_l04Copy [(.agg [(.int .i64 (a0)),(.arr false (a1z) (.r3 (a1)))])]=some [.agg [.int .i64 a0,.arr true false (.r3 a1)]]:=by
  rw [qns]
  simp (disch:=omega) only [wk,bit,nI]
theorem qgu (k:Nat)(hk:2000000≤k)(a0:Int)(a1z:Bool)(a1:List (Int×Int×Int))(a2z:Bool)(a2:List Int)(a3z:Bool)(a3:List Int)(a4z:Bool)(a4:List Int)(h1:(a1.length:Int)≤1048576)(h2:(a2.length:Int)≤1048576)(h3:(a3.length:Int)≤1048576)(h4:(a4.length:Int)≤1048576):go (k+2) spec_l07Copy [(.agg [(.int .i64 (a0)),(.arr false (a1z) (.r3 (a1))),(.arr false (a2z) (.ints .i64 (a2))),(.arr false (a3z) (.ints .i64 (a3))),(.arr false (a4z) (.ints .i64 (a4)))])]=some [.agg [.int .i64 a0,.arr true false (.r3 a1),.arr true false (.ints .i64 a2),.arr true false (.ints .i64 a3),.arr true false (.ints .i64 a4)]]:=by
  rw [qn0]
  simp (disch:=omega) only [wk,bit,nI,qgm]
theorem qff (k:Nat)(hk:2000000≤k)(a:List Int)(hl:(a.length:Int)≤1048576):go (k+1) slices_Clone_int_int [.arr false false (.ints .i64 a)]=some [.arr true false (.ints .i64 a)]:=by
  rw [qmm]
  simp (disch:=omega) only [wk,bit,nI]
theorem qfe (k:Nat)(hk:2000000≤k)(a:List Cell)(hl:(a.length:Int)≤1048576):go (k+1) slices_Clone_impl_Id_impl_Id [.arr false false (.r3 a)]=some [.arr true false (.r3 a)]:=by
  rw [qml]
  simp (disch:=omega) only [wk,bit,nI]
theorem qda (k:Nat)(hk:2000000≤k)(a0:Int)(a1:List Cell)(h1:(a1.length:Int)≤1048576):go (k+2) impl_copyMesh [.agg [.int .i64 a0,.arr false false (.r3 a1)]]=some [.agg [.int .i64 a0,.arr true false (.r3 a1)]]:=by
  rw [qk8]
  simp (disch:=omega) only [wk,bit,nI,qfe]
theorem qdb (k:Nat)(hk:2000000≤k)(a0:Int)(a1:List Cell)(a2 a3 a4:List Int)(h1:(a1.length:Int)≤1048576)(h2:(a2.length:Int)≤1048576)(h3:(a3.length:Int)≤1048576)(h4:(a4.length:Int)≤1048576):
    go (k+3) impl_copyState [.agg [.int .i64 a0,.arr false false (.r3 a1),.arr false false (.ints .i64 a2),.arr false false (.ints .i64 a3),.arr false false (.ints .i64 a4)]]=some [.agg [.int .i64 a0,.arr true false (.r3 a1),.arr true false (.ints .i64 a2),.arr true false (.ints .i64 a3),.arr true false (.ints .i64 a4)]]:=by
  rw [qk9]
  simp (disch:=omega) only [wk,bit,nI,qda,qff]
end Go.Proofs.YtjfjniebmdafeaaGreatDoor
end
section
namespace Go.Proofs.YtjfjniebmdafeaaGreatDoor
open Go.Ev
theorem qga (k:Nat)(hk:2000000≤k)(a:Int)(b:Int)(c:Int):go (k+2) spec_ShareOut [(.int .i64 (a)),(.int .i64 (b)),(.int .i64 (c))]=some [.int .i64 (q1c a b c)]:=by
  rw [qnj]
  unfold q1c
  cases hm:inR c 1 10000000
  · simp (disch:=omega) only [wk,bit,nI,qgl,hm]
  cases hp:inR b 0 c
  · simp (disch:=omega) only [wk,bit,nI,qgl,hm,hp]
  have hm' :=qp3.1 hm
  cases ht:inR a 0 (1000*c)
  · simp (disch:=omega) only [wk,bit,nI,qgl,hm,hp,ht]
  have q:=q1g hm hp ht
  have q2:0≤Int.tdiv (a*b) c∧Int.tdiv (a*b) c≤100000000000000000:=by
    have:=q3a (x:=a*b) (y:=c) (B:=100000000000000000) (by omega) (by omega) (by omega)
    rw [Int.tdiv_eq_ediv_of_nonneg q.1] at*
    exact ⟨Int.ediv_nonneg q.1 (by omega),this.2⟩
  simp (disch:=omega) only [wk,bit,nI,qgl,hm,hp,ht]
theorem qf2 (k:Nat)(hk:2000000≤k)(a:Int)(b:Int)(c:Int)(d:Int):go (k+3) spec_LeafOut [(.int .i64 (a)),(.int .i64 (b)),(.int .i64 (c)),(.int .i64 (d))]=some [.int .i64 (loA a b c d),.int .i64 (loB a b c d)]:=by
  rw [qnb]
  unfold loA loB loOk
  cases hm:inR b 1 10000000
  · simp (disch:=omega) only [wk,bit,nI,qgl,hm]
  have hm' :=qp3.1 hm
  cases ht:inR a 0 (1000*b)
  · simp (disch:=omega) only [wk,bit,nI,qgl,hm,ht]
  cases hr:inR c 0 b
  · simp (disch:=omega) only [wk,bit,nI,qgl,hm,ht,hr]
  have hr' :=qp3.1 hr
  cases hl:inR d 0 (b - c)
  · simp (disch:=omega) only [wk,bit,nI,qgl,hm,ht,hr,hl]
  have hl' :=qp3.1 hl
  have s1:=q1e a c b; have s2:=q1e a (c+d) b
  simp (disch:=omega) only [wk,bit,nI,qgl,hm,ht,hr,hl,qga]
theorem qfn (k:Nat)(hk:2000000≤k)(a b:Int)(hb:0<b)(ha: -1000000000000≤a)(ha' :a≤1000000000000):go (k+1) spec_DivTrunc [.int .i64 a,.int .i64 b]=some [.int .i64 (Int.tdiv a b)]:=by
  rw [qmy]
  have:=q3a hb ha ha'
  simp (disch:=omega) only [wk,bit,nI]
theorem qg0 (k:Nat)(hk:2000000≤k)(a:Int)(b:Int)(c:Int)(d:Int)(e:Int)(f:Int)(ha:0≤a∧a≤161000000)(hb:0≤b∧b≤161000000)(hc:0≤c∧c≤10000000)(hd:0≤d∧d≤10000000)(he:inR e 0 4=true)(hf:inR f 0 4=true):go (k+3) spec_l09Pair [(.int .i64 (a)),(.int .i64 (b)),(.int .i64 (c)),(.int .i64 (d)),(.int .i64 (e)),(.int .i64 (f))]=some [.int .i64 (qxh a b c d e f)]:=by
  rw [qn7]
  have w1:=q34 he; have w2:=q34 hf; have w3:=q35 (max f e)
  have p:=qwh (x:=a - b) (w:=q33 (max f e)) (A:=161000000) (by omega) (by omega) w3.1 w3.2
  have t:=q3a (x:=(a - b)*q33 (max f e)) (y:=32*(q33 e+q33 f)) (B:=2576000000) (by omega) (by omega) (by omega)
  have t1:Int.tdiv c 4=c / 4:=Int.tdiv_eq_ediv_of_nonneg (by omega)
  have t2:Int.tdiv d 4=d / 4:=Int.tdiv_eq_ediv_of_nonneg (by omega)
  simp (disch:=omega) only [wk,bit,nI,qgf,qfn,t1,t2]
  rfl
theorem qgy (k:Nat)(hk:2000000≤k)(r:Int)(z1 z2 z3 z4:Bool)(l:List Cell)(m t b:List Int)(F:StF r l m t b)(i:Nat)(hi:i+1<l.length):
    go (k+4) spec_l09Flux [.agg [.int .i64 r,.arr false z1 (.r3 l),.arr false z2 (.ints .i64 m),.arr false z3 (.ints .i64 t),.arr false z4 (.ints .i64 b)],.int .i64 (i:Int)]=some [.int .i64 (fl l m b i)]:=by
  rw [qn5]
  have hl:=F.len; have hm:=F.ml
  have h1:=F.at i; have h2:=F.at (i+1); have s1:=q2u F i; have s2:=q2u F (i+1)
  have v1:=F.lev i; have v2:=F.lev (i+1)
  have e1:=qg1 (k+3 - 1) (by omega) r z1 z2 z3 z4 l m t b F i (by omega)
  have e2:=qg1 (k+3 - 1) (by omega) r z1 z2 z3 z4 l m t b F (i+1) hi
  rw [show k+3 - 1+1=k+3 by omega] at e1 e2
  have e3:=qg0 (k+3 - 3) (by omega) (surf l m b i) (surf l m b (i+1)) (m.getD i 0) (m.getD (i+1) 0) (l.getD i zz3).2.1 (l.getD (i+1) zz3).2.1 s1 s2 ⟨h1.1,h1.2.1⟩ ⟨h2.1,h2.2.1⟩ v1 v2
  rw [show k+3 - 3+3=k+3 by omega] at e3
  simp (disch:=omega) only [wk,bit,nI,e1,e2,e3]
  rfl
def Fk (tk:Int)(l:List Cell)(m b:List Int)(k j:Nat):Int:=if j<k then ff tk l m b j else 0
def Mk (tk:Int)(l:List Cell)(m b:List Int)(k j:Nat):Int:=m.getD j 0 - (if j<k then ff tk l m b j else 0)+(if 1≤j∧j≤k then ff tk l m b (j - 1) else 0)
theorem qvi (k:Nat)(hk:2000000≤k)(fu:List (Nat×Nat))(r tk:Int)(z1 z2 z3 z4 y1 y2 y3 y4 x1 x2 x3 x4:Bool)(c1:List Cell)(c2 c3 c4:List Int)(c0:Int)(l:List Cell)(m t b tr bd:List Int)(ld:List Cell)(r' :Int)(F:StF r l m t b): ∀ (n i:Nat),i<l.length→l.length - i<n→
    lp (k+4) spec_l11Step [] fu 4 (n) (q0w tk (i:Int) z1 l z2 m z3 t z4 b r y1 c1 y2 c2 y3 c3 y4 c4 c0 x1 ld x2 (tab l.length (Mk tk l m b i)) x3 tr x4 bd r' false (tab l.length (Fk tk l m b i)))=lp (k+4) spec_l11Step [] fu 11 (k+4) (q0v 0 z1 l z2 m z3 t z4 b r y1 c1 y2 c2 y3 c3 y4 c4 c0 x1 ld x2 (tab l.length (stM tk l m b)) x3 tr x4 bd r' false (tab l.length (ff tk l m b)))
  | 0,i,hi,hn=>by omega
  | n+1,i,hi,hn=>by
    have hl:=F.len; have hm:=F.ml
    rw [qsz]
    by_cases h:i+1<l.length
    · have IH:=qvi k hk fu r tk z1 z2 z3 z4 y1 y2 y3 y4 x1 x2 x3 x4 c1 c2 c3 c4 c0 l m t b tr bd ld r' F n (i+1) h (by omega)
      have b0:=qo4 F i; have b1:=qou F tk (i - 1); have a0:=F.at i; have a1:=F.at (i+1); have a2:=F.at (i - 1)
      have eF:=qgy (k+4 - 4) (by omega) r z1 z2 z3 z4 l m t b F i h
      rw [show k+4 - 4+4=k+4 by omega] at eF
      cases ha:qqb tk (qos l i)
      · have hz:ff tk l m b i=0:=by unfold ff qao; rw [ha]; simp
        simp (disch:=omega) only [wk,bit,nI,qgp,qfx,ha]
        rw [← IH]
        have q1:tab l.length (Mk tk l m b i)=tab l.length (Mk tk l m b (i+1)):=q2y fun j hj=>by
          unfold Mk
          by_cases g1:j=i
          · subst g1
            by_cases g2:1≤j
            · simp (disch:=omega) only [itT,itF,if_pos,if_neg,hz]
            · simp (disch:=omega) only [itT,itF,if_pos,if_neg,hz]
          · by_cases g2:j=i+1
            · subst g2; simp (disch:=omega) only [itT,itF,if_pos,if_neg,Nat.add_sub_cancel,hz]
            · have e1:(j<i)=(j<i+1):=by rw [eq_iff_iff]; omega
              have e2:(1≤j∧j≤i)=(1≤j∧j≤i+1):=by rw [eq_iff_iff]; omega
              simp only [e1,e2]
        have q2:tab l.length (Fk tk l m b i)=tab l.length (Fk tk l m b (i+1)):=q2y fun j hj=>by
          unfold Fk
          by_cases g1:j=i
          · subst g1; rw [if_neg (by omega),if_pos (by omega),hz]
          · have e1:(j<i)=(j<i+1):=by rw [eq_iff_iff]; omega
            simp only [e1]
        rw [q1,q2]
      · have hz:ff tk l m b i=fl l m b i:=by unfold ff qao; rw [ha,dT h]; rfl
        have v1:Mk tk l m b i i=m.getD i 0+(if 1≤i then ff tk l m b (i - 1) else 0):=by
          unfold Mk; rw [if_neg (by omega)]
          by_cases g2:1≤i
          · rw [if_pos (by omega),if_pos g2]; omega
          · rw [if_neg (by omega),if_neg g2]; omega
        have v2:Mk tk l m b i (i+1)=m.getD (i+1) 0:=by
          unfold Mk; rw [if_neg (by omega),if_neg (by omega)]; omega
        have bb: -5000000≤(if 1≤i then ff tk l m b (i - 1) else 0)∧(if 1≤i then ff tk l m b (i - 1) else 0)≤5000000:=by
          by_cases g2:1≤i
          · rw [if_pos g2]; rw [show i - 1+1=i by omega] at b1; omega
          · rw [if_neg g2]; omega
        have w1: -20000000≤Mk tk l m b i i∧Mk tk l m b i i≤20000000:=by rw [v1]; omega
        have w2: -20000000≤Mk tk l m b i (i+1)∧Mk tk l m b i (i+1)≤20000000:=by rw [v2]; omega
        simp (disch:=omega) only [wk,bit,nI,qgp,qfx,ha,eF,q20,q23,q2z,itT,itF,if_pos,if_neg]
        rw [v1,v2]
        rw [← IH]
        have q1:tab l.length (fun j=>if j=i+1 then m.getD (i+1) 0+fl l m b i else if j=i then m.getD i 0+(if 1≤i then ff tk l m b (i - 1) else 0) - fl l m b i else Mk tk l m b i j)=tab l.length (Mk tk l m b (i+1)):=q2y fun j hj=>by
          by_cases g2:j=i+1
          · subst g2; unfold Mk; simp (disch:=omega) only [itT,itF,if_pos,if_neg,Nat.add_sub_cancel,hz]; omega
          · by_cases g1:j=i
            · subst g1; unfold Mk
              by_cases g3:1≤j
              · simp (disch:=omega) only [itT,itF,if_pos,if_neg,hz]; omega
              · simp (disch:=omega) only [itT,itF,if_pos,if_neg,hz]; omega
            · rw [if_neg g2,if_neg g1]
              have e1:(j<i)=(j<i+1):=by rw [eq_iff_iff]; omega
              have e2:(1≤j∧j≤i)=(1≤j∧j≤i+1):=by rw [eq_iff_iff]; omega
              unfold Mk
              simp only [e1,e2]
        have q2:tab l.length (fun j=>if j=i then fl l m b i else Fk tk l m b i j)=tab l.length (Fk tk l m b (i+1)):=q2y fun j hj=>by
          by_cases g1:j=i
          · subst g1; unfold Fk; rw [if_pos rfl,if_pos (by omega),hz]
          · rw [if_neg g1]
            have e1:(j<i)=(j<i+1):=by rw [eq_iff_iff]; omega
            unfold Fk
            simp only [e1]
        rw [q1,q2]
    · simp (disch:=omega) only [wk,bit,nI]
      have q1:tab l.length (Mk tk l m b i)=tab l.length (stM tk l m b):=q2y fun j hj=>by
        unfold Mk stM
        by_cases g1:j=i
        · subst g1; rw [if_neg (by omega),qot (i:=j) (show l.length≤j+1 by omega)]
          by_cases g3:1≤j
          · rw [if_pos g3,if_pos (by omega)]
          · rw [if_neg g3,if_neg (by omega)]
        · rw [if_pos (by omega)]
          by_cases g3:1≤j
          · rw [if_pos g3,if_pos (by omega)]
          · rw [if_neg g3,if_neg (by omega)]
      have q2:tab l.length (Fk tk l m b i)=tab l.length (ff tk l m b):=q2y fun j hj=>by
        unfold Fk
        by_cases g1:j=i
        · subst g1; rw [if_neg (by omega),qot (i:=j) (show l.length≤j+1 by omega)]
        · rw [if_pos (by omega)]
      rw [q1,q2]
set_option maxHeartbeats 2000000 in
theorem qvh (k:Nat)(hk:2000000≤k)(fu:List (Nat×Nat))(r tk:Int)(z1 z2 z3 z4 y1 y2 y3 y4:Bool)(c1:List Cell)(c2 c3 c4:List Int)(c0:Int)(l:List Cell)(m t b mm bd:List Int)(ld:List Cell)(r' :Int)(F:StF r l m t b): ∀ (n i:Nat),i≤l.length→l.length - i<n→
    lp (k+4) spec_l11Step [] fu 11 (n) (q0v (i:Int) z1 l z2 m z3 t z4 b r y1 c1 y2 c2 y3 c3 y4 c4 c0 false ld false mm false (tab l.length (Tk tk l m t b i)) false bd r' false (tab l.length (ff tk l m b)))=some [.agg [.int .i64 r',.arr true false (.r3 ld),.arr true false (.ints .i64 mm),.arr true false (.ints .i64 (tab l.length (stT tk l m t b))),.arr true false (.ints .i64 bd)]]
  | 0,i,hi,hn=>by omega
  | n+1,i,hi,hn=>by
    have hl:=F.len; have hm:=F.ml; have ht:=F.tl
    rw [qsy]
    by_cases h:i<l.length
    · have IH:=qvh k hk fu r tk z1 z2 z3 z4 y1 y2 y3 y4 c1 c2 c3 c4 c0 l m t b mm bd ld r' F n (i+1) (by omega) (by omega)
      rw [← qam tk l m t b i h] at IH
      have f1:=qou F tk i; have f2:=qou F tk (i - 1); have a0:=F.at i; have a1:=F.at (i+1); have a2:=F.at (i - 1)
      have A:=qxa tk l m t b i; have B:=qxc tk l m t b i
      have A' :=qxa tk l m t b (i - 1); have B' :=qxc tk l m t b (i - 1); have A'' :=qxa tk l m t b (i - 1 - 1)
      have v1:Tk tk l m t b i i=t.getD i 0+(if 1≤i then outA tk l m t b (i - 1) else 0):=by
        unfold Tk; rw [if_neg (by omega),if_neg (show ¬ (i+1<i) by omega)]
        by_cases g2:1≤i
        · rw [if_pos (by omega),if_pos g2]; omega
        · rw [if_neg (by omega),if_neg g2]; omega
      have w1:0≤Tk tk l m t b i i∧Tk tk l m t b i i≤200000000000000000:=by
        rw [v1]
        by_cases g2:1≤i
        · rw [if_pos g2]; omega
        · rw [if_neg g2]; omega
      have w2:0≤Tk tk l m t b i (i+1)∧Tk tk l m t b i (i+1)≤200000000000000000:=by
        unfold Tk; rw [if_neg (by omega),if_neg (by omega),if_neg (by omega)]; omega
      have hA:loA (t.getD i 0) (m.getD i 0) (max 0 (ff tk l m b i)) (lft tk l m b i)=outA tk l m t b i:=rfl
      have hB:loB (t.getD i 0) (m.getD i 0) (max 0 (ff tk l m b i)) (lft tk l m b i)=outB tk l m t b i:=rfl
      have hi1:0<ff tk l m b i→i+1<l.length:=fun g4=>by
        rcases Nat.lt_or_ge (i+1) l.length with q | q
        · exact q
        · rw [qot q] at g4; omega
      have zA:¬ 0<ff tk l m b i→outA tk l m t b i=0:=fun g4=>qxb (by unfold rgt; omega)
      by_cases g1:1≤i
      · have hL:max 0 (0 - ff tk l m b (i - 1))=lft tk l m b i:=by unfold lft; rw [if_pos g1]
        have hL0:0≤lft tk l m b i:=by rw [← hL]; omega
        rw [show i - 1+1=i by omega] at f2
        have w3: -300000000000000000≤Tk tk l m t b i (i - 1)∧Tk tk l m t b i (i - 1)≤300000000000000000:=by
          unfold Tk; rw [if_pos (by omega),if_neg (show ¬ (i - 1+1<i) by omega)]
          by_cases g3:1≤i - 1
          · rw [if_pos (show 1≤i - 1∧i - 1≤i by omega)]; omega
          · rw [if_neg (show ¬ (1≤i - 1∧i - 1≤i) by omega)]; omega
        by_cases g4:0<ff tk l m b i
        · have:=hi1 g4
          by_cases g5:0<lft tk l m b i
          · rw [← q3t g1] at IH
            simp (disch:=omega) only [wk,bit,nI,qhj,q20,q2z,q23,hL,qf2,hA,hB,itT,niF]
            exact IH
          · rw [← q3s (qxd (by omega))] at IH
            simp (disch:=omega) only [wk,bit,nI,qhj,q20,q2z,q23,hL,qf2,hA,hB,itT,niF]
            exact IH
        · by_cases g5:0<lft tk l m b i
          · rw [← q3r g1 (zA g4)] at IH
            simp (disch:=omega) only [wk,bit,nI,qhj,q20,q2z,q23,hL,qf2,hA,hB,itT,niF]
            exact IH
          · rw [← q3q (zA g4) (qxd (by omega))] at IH
            simp (disch:=omega) only [wk,bit,nI,qhj,q20,q2z,q23,hL,qf2,hA,hB,itT,niF]
            exact IH
      · have hL:(0:Int)=lft tk l m b i:=by unfold lft; rw [if_neg g1]
        have zB:outB tk l m t b i=0:=qxd hL.symm
        have hA' :loA (t.getD i 0) (m.getD i 0) (max 0 (ff tk l m b i)) 0=outA tk l m t b i:=by unfold outA rgt; rw [← hL]
        have hB' :loB (t.getD i 0) (m.getD i 0) (max 0 (ff tk l m b i)) 0=outB tk l m t b i:=by unfold outB rgt; rw [← hL]
        by_cases g4:0<ff tk l m b i
        · have:=hi1 g4
          rw [← q3s zB] at IH
          simp (disch:=omega) only [wk,bit,nI,qhj,q20,q2z,q23,hA',hB',qf2,hA,hB,itT,niF]
          exact IH
        · rw [← q3q (zA g4) zB] at IH
          simp (disch:=omega) only [wk,bit,nI,qhj,q20,q2z,q23,hA',hB',qf2,hA,hB,itT,niF]
          exact IH
    · simp (disch:=omega) only [wk,bit,nI]
      rw [show i=l.length by omega,qal tk l m t b hm]
theorem qae (tk:Int)(l:List Cell)(m b:List Int)(hm:m.length=l.length):m=tab l.length (Mk tk l m b 0):=by
  have h:=q22 m
  rw [hm] at h
  refine h.trans (q2y fun j hj=> ?_)
  unfold Mk
  rw [if_neg (by omega),if_neg (by omega)]; omega
theorem qaa (tk:Int)(l:List Cell)(m b:List Int):List.replicate l.length (0:Int)=tab l.length (Fk tk l m b 0):=by
  rw [q25]
  refine q2y fun j hj=> ?_
  unfold Fk
  rw [if_neg (by omega)]
theorem qg2 (k:Nat)(hk:2000000≤k)(r:Int)(z1 z2 z3 z4:Bool)(l:List Cell)(m t b:List Int)(F:StF r l m t b)(tk:Int):
    go (k+5) spec_l11Step [.agg [.int .i64 r,.arr false z1 (.r3 l),.arr false z2 (.ints .i64 m),.arr false z3 (.ints .i64 t),.arr false z4 (.ints .i64 b)],.int .i64 tk]=some [.agg [.int .i64 r,.arr true false (.r3 l),.arr true false (.ints .i64 (tab l.length (stM tk l m b))),.arr true false (.ints .i64 (tab l.length (stT tk l m t b))),.arr true false (.ints .i64 b)]]:=by
  rw [qn9]
  have hl:=F.len; have hm:=F.ml; have ht:=F.tl; have hb:=F.bl; have hr:=F.rr
  simp (disch:=omega) only [wk,bit,nI,qgu]
  rw [show List.replicate m.length (0:Int)=tab l.length (Fk tk l m b 0) by rw [hm]; exact qaa tk l m b]
  have e1:=qvi k hk [] r tk z1 z2 z3 z4 true true true true false false false false [] [] [] [] 0 l m t b t b l r F (k+4) 0 (by omega) (by omega)
  have e2:=qvh k hk [] r tk z1 z2 z3 z4 true true true true [] [] [] [] 0 l m t b (tab l.length (stM tk l m b)) b l r F (k+4) 0 (by omega) (by omega)
  rw [← qae tk l m b hm] at e1
  rw [← qan tk l m t b ht] at e2
  exact e1.trans e2
end Go.Proofs.YtjfjniebmdafeaaGreatDoor
end
section
namespace Go.Proofs.YtjfjniebmdafeaaGreatDoor
open Go.Ev
set_option maxRecDepth 20000
theorem qcq (k:Nat)(hk:2000000≤k)(a:Int)(b:Int)(c:Int):go (k+2) impl_ShareOut [(.int .i64 (a)),(.int .i64 (b)),(.int .i64 (c))]=some [.int .i64 (q1c a b c)]:=by
  rw [qj8]
  unfold q1c
  cases hm:inR c 1 10000000
  · simp (disch:=omega) only [wk,bit,nI,qed,hm]
  cases hp:inR b 0 c
  · simp (disch:=omega) only [wk,bit,nI,qed,hm,hp]
  have hm' :=qp3.1 hm
  cases ht:inR a 0 (1000*c)
  · simp (disch:=omega) only [wk,bit,nI,qed,hm,hp,ht]
  have q:=q1g hm hp ht
  have q2:0≤Int.tdiv (a*b) c∧Int.tdiv (a*b) c≤100000000000000000:=by
    have:=q3a (x:=a*b) (y:=c) (B:=100000000000000000) (by omega) (by omega) (by omega)
    rw [Int.tdiv_eq_ediv_of_nonneg q.1] at*
    exact ⟨Int.ediv_nonneg q.1 (by omega),this.2⟩
  simp (disch:=omega) only [wk,bit,nI,qed,hm,hp,ht]
theorem qcf (k:Nat)(hk:2000000≤k)(a:Int)(b:Int)(c:Int)(d:Int):go (k+3) impl_LeafOut [(.int .i64 (a)),(.int .i64 (b)),(.int .i64 (c)),(.int .i64 (d))]=some [.int .i64 (loA a b c d),.int .i64 (loB a b c d)]:=by
  rw [qjq]
  unfold loA loB loOk
  cases hm:inR b 1 10000000
  · simp (disch:=omega) only [wk,bit,nI,qed,hm]
  have hm' :=qp3.1 hm
  cases ht:inR a 0 (1000*b)
  · simp (disch:=omega) only [wk,bit,nI,qed,hm,ht]
  cases hr:inR c 0 b
  · simp (disch:=omega) only [wk,bit,nI,qed,hm,ht,hr]
  have hr' :=qp3.1 hr
  cases hl:inR d 0 (b - c)
  · simp (disch:=omega) only [wk,bit,nI,qed,hm,ht,hr,hl]
  have hl' :=qp3.1 hl
  have s1:=q1e a c b; have s2:=q1e a (c+d) b
  simp (disch:=omega) only [wk,bit,nI,qed,hm,ht,hr,hl,qcq]
theorem qb1 (k:Nat)(hk:2000000≤k)(a b:Int)(hb:0<b)(ha: -1000000000000≤a)(ha' :a≤1000000000000):go (k+1) impl_DivTrunc [.int .i64 a,.int .i64 b]=some [.int .i64 (Int.tdiv a b)]:=by
  rw [qjd]
  have:=q3a hb ha ha'
  simp (disch:=omega) only [wk,bit,nI]
theorem qbz (k:Nat)(hk:2000000≤k)(a b c:Int)(h:b≤c):go (k+1) impl_Clamp [.int .i64 a,.int .i64 b,.int .i64 c]=some [.int .i64 (max b (min c a))]:=by
  rw [qjb]
  simp (disch:=omega) only [wk,bit,nI]
  rw [show min c (max b a)=max b (min c a) by omega]
theorem qdj (k:Nat)(hk:2000000≤k)(e c a f d b:Int)(ha:0≤a∧a≤161000000)(hb:0≤b∧b≤161000000)(hc:0≤c∧c≤10000000)(hd:0≤d∧d≤10000000)(he:inR e 0 4=true)(hf:inR f 0 4=true):
    go (k+4) impl_flux [.agg [.int .i64 e,.int .i64 c,.int .i64 a],.agg [.int .i64 f,.int .i64 d,.int .i64 b]]=some [.int .i64 (qxh a b c d e f)]:=by
  rw [qld]
  have w1:=q34 he; have w2:=q34 hf; have w3:=q35 (max f e)
  have p:=qwh (x:=a - b) (w:=q33 (max f e)) (A:=161000000) (by omega) (by omega) w3.1 w3.2
  have t:=q3a (x:=(a - b)*q33 (max f e)) (y:=32*(q33 e+q33 f)) (B:=2576000000) (by omega) (by omega) (by omega)
  have t1:Int.tdiv c 4=c / 4:=Int.tdiv_eq_ediv_of_nonneg (by omega)
  have t2:Int.tdiv d 4=d / 4:=Int.tdiv_eq_ediv_of_nonneg (by omega)
  simp (disch:=omega) only [wk,bit,nI,qcy,qb1,qbz,t1,t2]
  rfl
theorem qd6 (k:Nat)(hk:2000000≤k)(r:Int)(z1 z2 z3 z4:Bool)(l:List Cell)(m t b:List Int)(F:StF r l m t b)(i:Nat)(hi:i<l.length):
    go (k+2) impl_State_side [.agg [.int .i64 (r),.arr false (z1) (.r3 (l)),.arr false (z2) (.ints .i64 (m)),.arr false (z3) (.ints .i64 (t)),.arr false (z4) (.ints .i64 (b))],.int .i64 (i:Int)]=some [.agg [.int .i64 (qte l i),.int .i64 (m.getD i 0),.int .i64 (surf l m b i)]]:=by
  rw [qkw]
  have hl:=F.len; have hm:=F.ml
  have e1:=qea (k+1 - 1) (by omega) r z1 z2 z3 z4 l m t b F i hi
  rw [show k+1 - 1+1=k+1 by omega] at e1
  simp (disch:=omega) only [wk,bit,nI,e1]
theorem qd5 (k:Nat)(hk:2000000≤k)(r:Int)(z1 z2 z3 z4:Bool)(l:List Cell)(m t b:List Int)(F:StF r l m t b)(i:Nat)(hi:i+1<l.length):
    go (k+5) impl_State_flux [.agg [.int .i64 (r),.arr false (z1) (.r3 (l)),.arr false (z2) (.ints .i64 (m)),.arr false (z3) (.ints .i64 (t)),.arr false (z4) (.ints .i64 (b))],.int .i64 (i:Int)]=some [.int .i64 (fl l m b i)]:=by
  rw [qkk]
  have hl:=F.len
  have h1:=F.at i; have h2:=F.at (i+1); have s1:=q2u F i; have s2:=q2u F (i+1)
  have v1:=F.lev i; have v2:=F.lev (i+1)
  have e1:=qd6 (k+4 - 2) (by omega) r z1 z2 z3 z4 l m t b F i (by omega)
  have e2:=qd6 (k+4 - 2) (by omega) r z1 z2 z3 z4 l m t b F (i+1) hi
  rw [show k+4 - 2+2=k+4 by omega] at e1 e2
  have e3:=qdj (k+4 - 4) (by omega) (qte l i) (m.getD i 0) (surf l m b i) (qte l (i+1)) (m.getD (i+1) 0) (surf l m b (i+1)) s1 s2 ⟨h1.1,h1.2.1⟩ ⟨h2.1,h2.2.1⟩ v1 v2
  rw [show k+4 - 4+4=k+4 by omega] at e3
  simp (disch:=omega) only [wk,bit,nI,e1,e2,e3]
  rfl
def nats (l:List Nat):List Int:=l.map (fun i:Nat=>(i:Int))
theorem qwl (l:List Nat):(nats l).length=l.length:=by simp [nats]
theorem qwk {l:List Nat}{i:Nat}(h:i<l.length):(nats l).getD i 0=((l.getD i 0:Nat):Int):=by simp [nats,h]
def qap (tk:Int)(l:List Cell):Nat→Nat→List Nat
  | 0,_=>[]
  | n+1,i=>if qqb tk (qos l i)=true then i::qap tk l n (i+1) else qap tk l n (i+1)
theorem qaq (tk:Int)(l:List Cell): ∀ n i,(qap tk l n i).length≤n
  | 0,i=>by simp [qap]
  | n+1,i=>by
    have:=qaq tk l n (i+1)
    unfold qap
    split
    · simp only [List.length_cons]; omega
    · omega
theorem qar (tk:Int)(l:List Cell): ∀ n i j,j∈qap tk l n i↔(i≤j∧j<i+n)∧qqb tk (qos l j)=true
  | 0,i,j=>by simp [qap]; omega
  | n+1,i,j=>by
    have ih:=qar tk l n (i+1) j
    unfold qap
    split
    · rename_i h
      rw [List.mem_cons,ih]
      constructor
      · rintro (rfl | ⟨h1,h2⟩)
        · exact ⟨by omega,h⟩
        · exact ⟨by omega,h2⟩
      · rintro ⟨h1,h2⟩
        by_cases e:j=i
        · exact .inl e
        · exact .inr ⟨by omega,h2⟩
    · rename_i h
      rw [ih]
      constructor
      · rintro ⟨h1,h2⟩; exact ⟨by omega,h2⟩
      · rintro ⟨h1,h2⟩
        refine ⟨?_,h2⟩
        by_cases e:j=i
        · subst e; exact absurd h2 h
        · omega
def acts (tk:Int)(l:List Cell):List Nat:=qap tk l (l.length - 1) 0
theorem que (k:Nat)(hk:2000000≤k)(fu:List (Nat×Nat))(z:Bool)(tk r:Int)(l:List Cell)(hl:(l.length:Int)≤1000)(h1:1≤l.length): ∀ (n i:Nat)(acc:List Nat),i≤l.length - 1→l.length - 1 - i<n→acc.length≤i→
    lp (k+4) impl_Mesh_active [] fu 3 (n) (qzc tk ((l.length - 1:Nat):Int) (i:Int) z l r false (nats acc))=some [.arr true false (.ints .i64 (nats (acc++qap tk l (l.length - 1 - i) i)))]
  | 0,i,acc,hi,hn,ha=>by omega
  | n+1,i,acc,hi,hn,ha=>by
    rw [qrg]
    have nl:=qwl acc
    by_cases h:i<l.length - 1
    · rw [show l.length - 1 - i=(l.length - 1 - (i+1))+1 by omega,qap]
      have eL:=qdi (k+4 - 1) (by omega) r z l i (by omega) (by omega)
      rw [show k+4 - 1+1=k+4 by omega] at eL
      have hd:(i:Int)<((l.length - 1:Nat):Int):=by omega
      rw [dT hd,qik,eL,qbi,nth0,q3g,qcb _ (by omega),qbi,nth0,bit,q3f]
      cases g:qqb tk (qos l i)
      · have e:=que k hk fu z tk r l hl h1 n (i+1) acc (by omega) (by omega) (by omega)
        rw [if_neg (by simp),qii]
        simp (disch:=omega) only [wk,bit,nI,e]
      · have e:=que k hk fu z tk r l hl h1 n (i+1) (acc++[i]) (by omega) (by omega) (by simp; omega)
        rw [if_pos rfl,qik]
        have q:nats acc++[(i:Int)]=nats (acc++[i]):=by simp [nats]
        have ql:(nats (acc++[i])).length=acc.length+1:=by simp [nats]
        rw [show acc++i::qap tk l (l.length - 1 - (i+1)) (i+1)=(acc++[i])++qap tk l (l.length - 1 - (i+1)) (i+1) by simp]
        simp (disch:=omega) only [wk,bit,nI,q,ql,big0,e]
    · simp (disch:=omega) only [wk,bit,nI]
      rw [show l.length - 1 - i=0 by omega,qap,List.append_nil]
theorem qc5 (k:Nat)(hk:2000000≤k)(a0:Int)(a1z:Bool)(a1:List (Int×Int×Int))(b:Int)(hl:(a1.length:Int)≤1000)(h1:1≤a1.length):go (k+5) impl_Mesh_active [(.agg [(.int .i64 (a0)),(.arr false (a1z) (.r3 (a1)))]),(.int .i64 (b))]=some [.arr true false (.ints .i64 (nats (acts b a1)))]:=by
  rw [qju]
  have e:=que k hk [] a1z b a0 a1 hl h1 (k+4) 0 [] (by omega) (by omega) (by simp)
  rw [List.nil_append,show nats []=[] from rfl] at e
  simp (disch:=omega) only [wk,bit,nI,qhj]
  exact e
end Go.Proofs.YtjfjniebmdafeaaGreatDoor
end
section
namespace Go.Proofs.YtjfjniebmdafeaaGreatDoor
open Go.Ev
theorem qmw (k:Nat)(a0 a1 a2 b:Int):go (k+1) spec_ChildOf [.agg [.int .i64 a0,.int .i64 a1,.int .i64 a2],.int .i64 b]=
 (go k spec_IdOk [.agg [.int .i64 a0,.int .i64 a1,.int .i64 a2]]).bind fun r0=>
 cond (!bit (nth r0 0))
 (some [.agg [.int .i64 0,.int .i64 0,.int .i64 0],.bool false])
 (cond (decide (a1=4))
 (some [.agg [.int .i64 0,.int .i64 0,.int .i64 0],.bool false])
 ((go k spec_l01In [.int .i64 b,.int .i64 0,.int .i64 1]).bind fun r1=>
 cond (!bit (nth r1 0))
 (some [.agg [.int .i64 0,.int .i64 0,.int .i64 0],.bool false])
 (some [.agg [.int .i64 a0,.int .i64 (IntKind.wrap .i64 (a1+1)),.int .i64 (IntKind.wrap .i64 (IntKind.wrap .i64 (2*a2)+b))],.bool true]))):=by kernel_rfl
theorem qnu (k:Nat)(a0:Int)(a1z:Bool)(a1:L3)(b:Int):go (k+1) spec_l05Coarser [.agg [.int .i64 a0,.arr false a1z (.r3 a1)],.int .i64 b]=
 cond (decide (0≤b)&&decide (b<nI (List.length a1)))
 (cond (decide (0≤IntKind.wrap .i64 (b+1))&&decide (IntKind.wrap .i64 (b+1)<nI (List.length a1)))
 (cond (decide (Prod.fst (Prod.snd (List.getD a1 (Int.toNat (IntKind.wrap .i64 (b+1))) zz3))<Prod.fst (Prod.snd (List.getD a1 (Int.toNat b) zz3))))
 (some [.int .i64 (IntKind.wrap .i64 (b+1))])
 (some [.int .i64 b]))
 none)
 none:=by kernel_rfl
theorem qnx (k:Nat)(a0:Int)(a1z:Bool)(a1:L3)(b:Int):go (k+1) spec_l05Split [.agg [.int .i64 a0,.arr false a1z (.r3 a1)],.int .i64 b]=
 cond (decide (0≤b)&&decide (b<nI (List.length a1)))
 ((go k spec_ChildOf [.agg [.int .i64 (Prod.fst (List.getD a1 (Int.toNat b) zz3)),.int .i64 (Prod.fst (Prod.snd (List.getD a1 (Int.toNat b) zz3))),.int .i64 (Prod.snd (Prod.snd (List.getD a1 (Int.toNat b) zz3)))],.int .i64 0]).bind fun r0=>
 cond (decide (0≤b)&&decide (b<nI (List.length a1)))
 ((go k spec_ChildOf [.agg [.int .i64 (Prod.fst (List.getD a1 (Int.toNat b) zz3)),.int .i64 (Prod.fst (Prod.snd (List.getD a1 (Int.toNat b) zz3))),.int .i64 (Prod.snd (Prod.snd (List.getD a1 (Int.toNat b) zz3)))],.int .i64 1]).bind fun r1=>
 cond (decide (0≤0)&&decide (0≤b)&&decide (b≤nI (List.length a1)))
 (cond (decide (List.length ([]++List.take (Int.toNat b - Int.toNat 0) (List.drop (0+Int.toNat 0) a1))≤bigLen))
 (cond (decide (List.length ([]++List.take (Int.toNat b - Int.toNat 0) (List.drop (0+Int.toNat 0) a1)++[(D.toInt (D.cell 0 (nth r0 0)),D.toInt (D.cell 1 (nth r0 0)),D.toInt (D.cell 2 (nth r0 0))),(D.toInt (D.cell 0 (nth r1 0)),D.toInt (D.cell 1 (nth r1 0)),D.toInt (D.cell 2 (nth r1 0)))])≤bigLen))
 (cond (decide (0≤IntKind.wrap .i64 (b+1))&&decide (IntKind.wrap .i64 (b+1)≤nI (List.length a1))&&decide (nI (List.length a1)≤nI (List.length a1)))
 (cond (decide (List.length ([]++List.take (Int.toNat b - Int.toNat 0) (List.drop (0+Int.toNat 0) a1)++[(D.toInt (D.cell 0 (nth r0 0)),D.toInt (D.cell 1 (nth r0 0)),D.toInt (D.cell 2 (nth r0 0))),(D.toInt (D.cell 0 (nth r1 0)),D.toInt (D.cell 1 (nth r1 0)),D.toInt (D.cell 2 (nth r1 0)))]++List.take (Int.toNat (nI (List.length a1)) - Int.toNat (IntKind.wrap .i64 (b+1))) (List.drop (0+Int.toNat (IntKind.wrap .i64 (b+1))) a1))≤bigLen))
 (some [.agg [.int .i64 a0,.arr true (false&&decide (List.length ([]++List.take (Int.toNat b - Int.toNat 0) (List.drop (0+Int.toNat 0) a1))=0)&&decide (List.length ([]++List.take (Int.toNat b - Int.toNat 0) (List.drop (0+Int.toNat 0) a1)++[(D.toInt (D.cell 0 (nth r0 0)),D.toInt (D.cell 1 (nth r0 0)),D.toInt (D.cell 2 (nth r0 0))),(D.toInt (D.cell 0 (nth r1 0)),D.toInt (D.cell 1 (nth r1 0)),D.toInt (D.cell 2 (nth r1 0)))])=0)&&decide (List.length ([]++List.take (Int.toNat b - Int.toNat 0) (List.drop (0+Int.toNat 0) a1)++[(D.toInt (D.cell 0 (nth r0 0)),D.toInt (D.cell 1 (nth r0 0)),D.toInt (D.cell 2 (nth r0 0))),(D.toInt (D.cell 0 (nth r1 0)),D.toInt (D.cell 1 (nth r1 0)),D.toInt (D.cell 2 (nth r1 0)))]++List.take (Int.toNat (nI (List.length a1)) - Int.toNat (IntKind.wrap .i64 (b+1))) (List.drop (0+Int.toNat (IntKind.wrap .i64 (b+1))) a1))=0)) (.r3 ([]++List.take (Int.toNat b - Int.toNat 0) (List.drop (0+Int.toNat 0) a1)++[(D.toInt (D.cell 0 (nth r0 0)),D.toInt (D.cell 1 (nth r0 0)),D.toInt (D.cell 2 (nth r0 0))),(D.toInt (D.cell 0 (nth r1 0)),D.toInt (D.cell 1 (nth r1 0)),D.toInt (D.cell 2 (nth r1 0)))]++List.take (Int.toNat (nI (List.length a1)) - Int.toNat (IntKind.wrap .i64 (b+1))) (List.drop (0+Int.toNat (IntKind.wrap .i64 (b+1))) a1)))]])
 none)
 none)
 none)
 none)
 none)
 none)
 none:=by kernel_rfl
end Go.Proofs.YtjfjniebmdafeaaGreatDoor
end
section
namespace Go.Proofs.YtjfjniebmdafeaaGreatDoor
open Go.Ev
set_option maxRecDepth 20000
theorem qxs (o:Bool)(d0:D)(l:List D):(D.ptr o (d0::l)).cell 0=d0:=Eq.trans rfl rfl
theorem qxt (o:Bool)(d0 d1:D)(l:List D):(D.ptr o (d0::d1::l)).cell 1=d1:=Eq.trans rfl rfl
theorem qxu (o:Bool)(d0 d1 d2:D)(l:List D):(D.ptr o (d0::d1::d2::l)).cell 2=d2:=Eq.trans rfl rfl
theorem qfl (k:Nat)(hk:2000000≤k)(r v ix b:Int)(hid:idOk r v ix=true)(hv:v<4)(hb:b=0∨b=1):go (k+3) spec_ChildOf [.agg [.int .i64 r,.int .i64 v,.int .i64 ix],.int .i64 b]=some [.agg [.int .i64 r,.int .i64 (v+1),.int .i64 (2*ix+b)],.bool true]:=by
  rw [qmw]
  have h:=qpz.1 hid
  have hp:pow2 v≤16:=by
    rcases lev (qp3.2 h.2.1) with rfl | rfl | rfl | rfl | rfl<;>decide
  have hi:inR b 0 1=true:=qp3.2 (by omega)
  simp (disch:=omega) only [wk,bit,nI,qfw,hid,qgl,hi]
end Go.Proofs.YtjfjniebmdafeaaGreatDoor
end
section
namespace Go.Proofs.YtjfjniebmdafeaaGreatDoor
open Go.Ev
set_option maxRecDepth 20000
theorem qgo (k:Nat)(hk:2000000≤k)(a0:Int)(a1z:Bool)(a1:List Cell)(i:Nat)(hl:(a1.length:Int)≤1048576)(hi:i+1<a1.length):go (k+1) spec_l05Coarser [.agg [.int .i64 a0,.arr false a1z (.r3 a1)],.int .i64 (i:Int)]=some [.int .i64 ((qif a1 i:Nat):Int)]:=by
  rw [qnu]
  unfold qif
  simp (disch:=omega) only [wk,bit,nI]
  by_cases g:qte a1 (i+1)<qte a1 i
  · rw [if_pos g]; simp only [qte] at g; simp (disch:=omega) only [wk,bit,nI]
  · rw [if_neg g]; simp only [qte] at g; simp (disch:=omega) only [wk,bit,nI]
theorem q26 {α:Type}(l:List α)(i:Nat):List.take (l.length - i) (List.drop i l)=l.drop i:=by
  apply List.take_of_length_le; rw [List.length_drop]; omega
theorem ton0:Int.toNat 0=0:=Eq.trans rfl rfl
theorem qgr (k:Nat)(hk:2000000≤k)(a0:Int)(a1z:Bool)(a1:List Cell)(i:Nat)(hl:(a1.length:Int)≤1000000)(hi:i<a1.length)(hid:idOk (a1.getD i zz3).1 (a1.getD i zz3).2.1 (a1.getD i zz3).2.2=true)(hv:(a1.getD i zz3).2.1<4):go (k+4) spec_l05Split [.agg [.int .i64 a0,.arr false a1z (.r3 a1)],.int .i64 (i:Int)]=some [.agg [.int .i64 a0,.arr true false (.r3 (q1y a1 i))]]:=by
  rw [qnx]
  have cA:=qfl k (by omega) _ _ _ 0 hid hv (Or.inl rfl)
  have cB:=qfl k (by omega) _ _ _ 1 hid hv (Or.inr rfl)
  rw [Int.add_zero] at cA
  have l1:(a1.take i).length=i:=by rw [List.length_take]; omega
  have l2: ∀ x y:Cell,(a1.take i++[x,y]).length=i+2:=fun x y=>by rw [List.length_append,l1]; rfl
  have l3: ∀ x y:Cell,(a1.take i++[x,y]++a1.drop (i+1)).length=a1.length+1:=fun x y=>by rw [List.length_append,l2,List.length_drop]; omega
  simp (disch:=omega) only [wk,bit,nI,cA,cB,ton0,Nat.sub_zero,Nat.zero_add,List.drop_zero,q26,l1,l2,l3]
  rw [List.append_assoc]; rfl
end Go.Proofs.YtjfjniebmdafeaaGreatDoor
end
section
namespace Go.Proofs.YtjfjniebmdafeaaGreatDoor
open Go.Ev
set_option maxRecDepth 20000
theorem q3k (o:Bool)(d0 d1 d2 d3:D)(l:List D):(D.ptr o (d0::d1::d2::d3::l)).cell 3=d3:=Eq.trans rfl rfl
theorem q3l (o:Bool)(d0 d1 d2 d3 d4:D)(l:List D):(D.ptr o (d0::d1::d2::d3::d4::l)).cell 4=d4:=Eq.trans rfl rfl
theorem qgb (k:Nat)(hk:2000000≤k)(a:Int)(h:0≤a)(h' :a≤1000000000):go (k+1) spec_SplitEven [(.int .i64 (a))]=some [.int .i64 (hA a),.int .i64 (hB a)]:=by
  rw [qnk]
  have e:Int.tdiv a 2=a / 2:=Int.tdiv_eq_ediv_of_nonneg h
  rw [e]
  simp (disch:=omega) only [wk,bit,nI]
theorem qcr (k:Nat)(hk:2000000≤k)(a:Int)(h:0≤a)(h' :a≤1000000000):go (k+1) impl_SplitEven [(.int .i64 (a))]=some [.int .i64 (hA a),.int .i64 (hB a)]:=by
  rw [qj9]
  have e:Int.tdiv a 2=a / 2:=Int.tdiv_eq_ediv_of_nonneg h
  rw [e]
  simp (disch:=omega) only [wk,bit,nI]
theorem qgx (k:Nat)(hk:2000000≤k)(r:Int)(s:S3)(b:List Int)(U:StU r s b)(i:Nat)(hi:i<s.1.length)(hv:qte s.1 i<4):
    go (k+5) spec_l08Split [.agg [.int .i64 (r),.arr false (false) (.r3 (s.1)),.arr false (false) (.ints .i64 (s.2.1)),.arr false (false) (.ints .i64 (s.2.2)),.arr false (false) (.ints .i64 (b))],.int .i64 (i:Int)]=some [.agg [.int .i64 (r),.arr true (false) (.r3 ((rfS s i).1)),.arr true (false) (.ints .i64 ((rfS s i).2.1)),.arr true (false) (.ints .i64 ((rfS s i).2.2)),.arr true (false) (.ints .i64 (b))]]:=by
  obtain ⟨l,m,t⟩:=s
  simp only at hi hv ⊢
  rw [qn4]
  have L:=U.len; have ml:m.length=l.length:=U.ml; have tl:t.length=l.length:=U.tl; have bl:=U.bl; have rr:=U.rr
  have a:0≤m.getD i 0∧m.getD i 0≤10000000∧0≤t.getD i 0∧t.getD i 0≤1000*m.getD i 0:=U.at i
  simp only at L
  have q:=hAB a.1
  have sh:=q1j ⟨a.1,a.2.1⟩ ⟨a.2.2.1,a.2.2.2⟩
  simp only [shr] at sh
  have m1:(m.take i).length=i:=by rw [List.length_take]; omega
  have t1:(t.take i).length=i:=by rw [List.length_take]; omega
  have l2: ∀ (x:List Int)(p q:Int),x.length=i→(x++[p,q]).length=i+2:=fun x p q h=>by rw [List.length_append,h]; rfl
  have m2:=fun p q=>l2 (m.take i) p q m1
  have t2:=fun p q=>l2 (t.take i) p q t1
  have m3: ∀ p q:Int,(m.take i++[p,q]++m.drop (i+1)).length=l.length+1:=fun p q=>by rw [List.length_append,m2,List.length_drop]; omega
  have t3: ∀ p q:Int,(t.take i++[p,q]++t.drop (i+1)).length=l.length+1:=fun p q=>by rw [List.length_append,t2,List.length_drop]; omega
  have cS:=qgr k (by omega) r false l i (by omega) hi (U.id hi) hv
  simp (disch:=omega) only [wk,bit,nI,qgb,qga,cS,ton0,Nat.sub_zero,Nat.zero_add,List.drop_zero,q26,m1,t1,m2,t2,m3,t3]
  rw [List.append_assoc,List.append_assoc]
  rfl
theorem qck (k:Nat)(hk:2000000≤k)(r:Int)(l:List Cell)(h:qv6 r 0 l=true)(i:Nat)(hi:i<l.length)(hv:qte l i<4):
    go (k+2) impl_Mesh_refine [.ptr true [.int .i64 r,.arr true false (.r3 l)],.int .i64 (i:Int)]=some [.ptr true [.int .i64 r,.arr true false (.r3 (q1y l i))]]:=by
  rw [qj0]
  have L:=qwb h
  have id:=qpz.1 ((qwa _ _ _ h).2.2.2.1 _ hi).2.2
  have hp:pow2 (l.getD i zz3).2.1≤16:=by
    rcases lev (qp3.2 id.2.1) with e | e | e | e | e<;>rw [e]<;>decide
  have eR:=qfg k false false l [ch0 (l.getD i zz3),ch1 (l.getD i zz3)] (i:Int) ((i+1:Nat):Int) (by omega) (by omega) (by omega) (by simp) (by simp<;>omega) (by omega) (by simp)
  rw [Int.toNat_natCast,Int.toNat_natCast] at eR
  simp only [qte] at hv
  simp (disch:=omega) only [wk,bit,nI,qk7,Int.add_zero,eR]
  rw [List.append_assoc]; rfl
theorem qd2 (k:Nat)(hk:2000000≤k)(r:Int)(s:S3)(b:List Int)(U:StU r s b)(i:Nat)(hi:i<s.1.length)(hv:qte s.1 i<4):
    go (k+3) impl_State_refine [.ptr true [.int .i64 (r),.arr true (false) (.r3 (s.1)),.arr true (false) (.ints .i64 (s.2.1)),.arr true (false) (.ints .i64 (s.2.2)),.arr true (false) (.ints .i64 (b))],.int .i64 (i:Int)]=some [.ptr true [.int .i64 (r),.arr true (false) (.r3 ((rfS s i).1)),.arr true (false) (.ints .i64 ((rfS s i).2.1)),.arr true (false) (.ints .i64 ((rfS s i).2.2)),.arr true (false) (.ints .i64 (b))]]:=by
  obtain ⟨l,m,t⟩:=s
  simp only at hi hv ⊢
  rw [qkt]
  have L:=U.len; have ml:m.length=l.length:=U.ml; have tl:t.length=l.length:=U.tl; have bl:=U.bl; have rr:=U.rr
  have a:0≤m.getD i 0∧m.getD i 0≤10000000∧0≤t.getD i 0∧t.getD i 0≤1000*m.getD i 0:=U.at i
  simp only at L
  have q:=hAB a.1
  have sh:=q1j ⟨a.1,a.2.1⟩ ⟨a.2.2.1,a.2.2.2⟩
  simp only [shr] at sh
  have eM:=qck k (by omega) r l U.mesh i hi hv
  have e1:=qfh (k+1) false false m [hA (m.getD i 0),hB (m.getD i 0)] (i:Int) ((i+1:Nat):Int) (by omega) (by omega) (by omega) (by simp) (by simp<;>omega) (by omega) (by simp)
  have e2:=qfh (k+1) false false t [q1c (t.getD i 0) (hA (m.getD i 0)) (m.getD i 0),t.getD i 0 - q1c (t.getD i 0) (hA (m.getD i 0)) (m.getD i 0)] (i:Int) ((i+1:Nat):Int) (by omega) (by omega) (by omega) (by simp) (by simp<;>omega) (by omega) (by simp)
  rw [Int.toNat_natCast,Int.toNat_natCast] at e1 e2
  simp (disch:=omega) only [wk,bit,nI,qcr,qcq,eM,e1,e2,qxs,qxt,qxu]
  rw [List.append_assoc,List.append_assoc]
  rfl
theorem qf5 {a:Cell}(hid:idOk a.1 a.2.1 a.2.2=true)(hv:1≤a.2.1)(k:Nat)(hk:2000000≤k):go (k+3) spec_ParentOf [.agg [.int .i64 a.1,.int .i64 a.2.1,.int .i64 a.2.2]]=some [.agg [.int .i64 (par a).1,.int .i64 (par a).2.1,.int .i64 (par a).2.2],.bool true]:=by
  have id:=qpz.1 hid
  have hp:pow2 a.2.1≤16:=by
    rcases lev (qp3.2 id.2.1) with e | e | e | e | e<;>rw [e]<;>decide
  have e:Int.tdiv a.2.2 2=a.2.2 / 2:=Int.tdiv_eq_ediv_of_nonneg id.2.2.1
  rw [qne]; simp (disch:=omega) only [wk,bit,nI,qfw,hid,e]
theorem qcl {a:Cell}(hid:idOk a.1 a.2.1 a.2.2=true)(hv:1≤a.2.1)(k:Nat)(hk:2000000≤k):go (k+4) impl_ParentOf [.agg [.int .i64 a.1,.int .i64 a.2.1,.int .i64 a.2.2]]=some [.agg [.int .i64 (par a).1,.int .i64 (par a).2.1,.int .i64 (par a).2.2],.bool true]:=by
  have id:=qpz.1 hid
  have hp:pow2 a.2.1≤16:=by
    rcases lev (qp3.2 id.2.1) with e | e | e | e | e<;>rw [e]<;>decide
  have e:Int.tdiv a.2.2 2=a.2.2 / 2:=Int.tdiv_eq_ediv_of_nonneg id.2.2.1
  rw [qj3]; simp (disch:=omega) only [wk,bit,nI,qb9,hid,e]
theorem qgt (k:Nat)(hk:2000000≤k)(r:Int)(z:Bool)(l:List Cell)(h:qv6 r 0 l=true)(i:Nat)(hi:i+1<l.length)(hv:1≤qte l i):
    go (k+4) spec_l06Merge [.agg [.int .i64 r,.arr false z (.r3 l)],.int .i64 (i:Int)]=some [.agg [.int .i64 r,.arr true false (.r3 (qv2 l i))]]:=by
  rw [qnz]
  have L:=qwb h
  have eP:=qf5 ((qwa _ _ _ h).2.2.2.1 _ (show i<l.length by omega)).2.2 hv k (by omega)
  have m1:(l.take i).length=i:=by rw [List.length_take]; omega
  have m2: ∀ p:Cell,(l.take i++[p]).length=i+1:=fun p=>by rw [List.length_append,m1]; rfl
  have m3: ∀ p:Cell,(l.take i++[p]++l.drop (i+2)).length=l.length - 1:=fun p=>by rw [List.length_append,m2,List.length_drop]; omega
  simp (disch:=omega) only [wk,bit,nI,eP,ton0,Nat.sub_zero,Nat.zero_add,List.drop_zero,q26,m1,m2,m3]
  rw [List.append_assoc]; rfl
theorem qgw (k:Nat)(hk:2000000≤k)(r:Int)(s:S3)(b:List Int)(U:StU r s b)(i:Nat)(hi:i+1<s.1.length)(hv:1≤qte s.1 i):
    go (k+5) spec_l08Merge [.agg [.int .i64 (r),.arr false (false) (.r3 (s.1)),.arr false (false) (.ints .i64 (s.2.1)),.arr false (false) (.ints .i64 (s.2.2)),.arr false (false) (.ints .i64 (b))],.int .i64 (i:Int)]=some [.agg [.int .i64 (r),.arr true (false) (.r3 ((cmS s i).1)),.arr true (false) (.ints .i64 ((cmS s i).2.1)),.arr true (false) (.ints .i64 ((cmS s i).2.2)),.arr true (false) (.ints .i64 (b))]]:=by
  obtain ⟨l,m,t⟩:=s
  simp only at hi hv ⊢
  rw [qn3]
  have L:=U.len; have ml:m.length=l.length:=U.ml; have tl:t.length=l.length:=U.tl; have bl:=U.bl; have rr:=U.rr
  have a:0≤m.getD i 0∧m.getD i 0≤10000000∧0≤t.getD i 0∧t.getD i 0≤1000*m.getD i 0:=U.at i
  have a' :0≤m.getD (i+1) 0∧m.getD (i+1) 0≤10000000∧0≤t.getD (i+1) 0∧t.getD (i+1) 0≤1000*m.getD (i+1) 0:=U.at (i+1)
  simp only at L
  have eM:=qgt k (by omega) r false l U.mesh i hi hv
  have m1:(m.take i).length=i:=by rw [List.length_take]; omega
  have t1:(t.take i).length=i:=by rw [List.length_take]; omega
  have m2: ∀ p:Int,(m.take i++[p]).length=i+1:=fun p=>by rw [List.length_append,m1]; rfl
  have t2: ∀ p:Int,(t.take i++[p]).length=i+1:=fun p=>by rw [List.length_append,t1]; rfl
  have m3:(m.take i++[m.getD i 0+m.getD (i+1) 0]++m.drop (i+2)).length+1=l.length:=by rw [List.length_append,m2,List.length_drop]; omega
  have t3:(t.take i++[t.getD i 0+t.getD (i+1) 0]++t.drop (i+2)).length+1=l.length:=by rw [List.length_append,t2,List.length_drop]; omega
  simp (disch:=omega) only [wk,bit,nI,eM,ton0,Nat.sub_zero,Nat.zero_add,List.drop_zero,q26,m1,m2,t1,t2]
  rw [List.append_assoc,List.append_assoc]
  rfl
theorem qcj (k:Nat)(hk:2000000≤k)(r:Int)(l:List Cell)(h:qv6 r 0 l=true)(i:Nat)(hi:i+1<l.length)(hv:1≤qte l i):
    go (k+5) impl_Mesh_coarsen [.ptr true [.int .i64 r,.arr true false (.r3 l)],.int .i64 (i:Int)]=some [.ptr true [.int .i64 r,.arr true false (.r3 (qv2 l i))]]:=by
  rw [qjv]
  have L:=qwb h
  have eP:=qcl ((qwa _ _ _ h).2.2.2.1 _ (show i<l.length by omega)).2.2 hv k (by omega)
  have eR:=qfg (k+3) false false l [par (l.getD i zz3)] (i:Int) ((i+2:Nat):Int) (by omega) (by omega) (by omega) (by simp) (by simp<;>omega) (by omega) (by simp)
  rw [Int.toNat_natCast,Int.toNat_natCast] at eR
  simp (disch:=omega) only [wk,bit,nI,eP,eR]
  rw [List.append_assoc]; rfl
theorem qc9 (k:Nat)(hk:2000000≤k)(r:Int)(s:S3)(b:List Int)(U:StU r s b)(i:Nat)(hi:i+1<s.1.length)(hv:1≤qte s.1 i):
    go (k+6) impl_State_coarsen [.ptr true [.int .i64 (r),.arr true (false) (.r3 (s.1)),.arr true (false) (.ints .i64 (s.2.1)),.arr true (false) (.ints .i64 (s.2.2)),.arr true (false) (.ints .i64 (b))],.int .i64 (i:Int)]=some [.ptr true [.int .i64 (r),.arr true (false) (.r3 ((cmS s i).1)),.arr true (false) (.ints .i64 ((cmS s i).2.1)),.arr true (false) (.ints .i64 ((cmS s i).2.2)),.arr true (false) (.ints .i64 (b))]]:=by
  obtain ⟨l,m,t⟩:=s
  simp only at hi hv ⊢
  rw [qki]
  have L:=U.len; have ml:m.length=l.length:=U.ml; have tl:t.length=l.length:=U.tl; have bl:=U.bl; have rr:=U.rr
  have a:0≤m.getD i 0∧m.getD i 0≤10000000∧0≤t.getD i 0∧t.getD i 0≤1000*m.getD i 0:=U.at i
  have a' :0≤m.getD (i+1) 0∧m.getD (i+1) 0≤10000000∧0≤t.getD (i+1) 0∧t.getD (i+1) 0≤1000*m.getD (i+1) 0:=U.at (i+1)
  simp only at L
  have eM:=qcj k (by omega) r l U.mesh i hi hv
  have e1:=qfh (k+4) false false m [m.getD i 0+m.getD (i+1) 0] (i:Int) ((i+2:Nat):Int) (by omega) (by omega) (by omega) (by simp) (by simp<;>omega) (by omega) (by simp)
  have e2:=qfh (k+4) false false t [t.getD i 0+t.getD (i+1) 0] (i:Int) ((i+2:Nat):Int) (by omega) (by omega) (by omega) (by simp) (by simp<;>omega) (by omega) (by simp)
  rw [Int.toNat_natCast,Int.toNat_natCast] at e1 e2
  simp (disch:=omega) only [wk,bit,nI,eM,e1,e2,qxs,qxt,qxu]
  rw [List.append_assoc,List.append_assoc]
  rfl
end Go.Proofs.YtjfjniebmdafeaaGreatDoor
end
section
namespace Go.Proofs.YtjfjniebmdafeaaGreatDoor
open Go.Ev
set_option maxRecDepth 20000
theorem qfz {a b:Cell}(ha:idOk a.1 a.2.1 a.2.2=true)(hb:idOk b.1 b.2.1 b.2.2=true)(k:Nat)(hk:2000000≤k):go (k+3) spec_IsSibling [.agg [.int .i64 a.1,.int .i64 a.2.1,.int .i64 a.2.2],.agg [.int .i64 b.1,.int .i64 b.2.1,.int .i64 b.2.2]]=some [.bool (sib a b)]:=by
  have ia:=qpz.1 ha; have ib:=qpz.1 hb
  have pa:pow2 a.2.1≤16:=by
    rcases lev (qp3.2 ia.2.1) with e | e | e | e | e<;>rw [e]<;>decide
  have ea:Int.tmod a.2.2 2=a.2.2 % 2:=Int.tmod_eq_emod_of_nonneg ia.2.2.1
  have da:Int.tdiv a.2.2 2=a.2.2 / 2:=Int.tdiv_eq_ediv_of_nonneg ia.2.2.1
  have db:Int.tdiv b.2.2 2=b.2.2 / 2:=Int.tdiv_eq_ediv_of_nonneg ib.2.2.1
  have pb:pow2 b.2.1≤16:=by
    rcases lev (qp3.2 ib.2.1) with e | e | e | e | e<;>rw [e]<;>decide
  rw [qm8]
  simp (disch:=omega) only [wk,bit,nI,qfw,ha,hb,ea]
  unfold sib
  rw [ha,hb]
  by_cases h1:a.1=b.1
  · by_cases h2:a.2.1=b.2.1
    · by_cases h3:a.2.2 % 2=0
      · simp (disch:=omega) only [wk,bit,nI]
      · simp (disch:=omega) only [wk,bit,nI]
    · simp (disch:=omega) only [wk,bit,nI]
  · simp (disch:=omega) only [wk,bit,nI]
theorem qcd {a b:Cell}(ha:idOk a.1 a.2.1 a.2.2=true)(hb:idOk b.1 b.2.1 b.2.2=true)(k:Nat)(hk:2000000≤k):go (k+5) impl_IsSibling [.agg [.int .i64 a.1,.int .i64 a.2.1,.int .i64 a.2.2],.agg [.int .i64 b.1,.int .i64 b.2.1,.int .i64 b.2.2]]=some [.bool (sib a b)]:=by
  have ia:=qpz.1 ha; have ib:=qpz.1 hb
  have pa:pow2 a.2.1≤16:=by
    rcases lev (qp3.2 ia.2.1) with e | e | e | e | e<;>rw [e]<;>decide
  have ea:Int.tmod a.2.2 2=a.2.2 % 2:=Int.tmod_eq_emod_of_nonneg ia.2.2.1
  have da:Int.tdiv a.2.2 2=a.2.2 / 2:=Int.tdiv_eq_ediv_of_nonneg ia.2.2.1
  have db:Int.tdiv b.2.2 2=b.2.2 / 2:=Int.tdiv_eq_ediv_of_nonneg ib.2.2.1
  have pb:pow2 b.2.1≤16:=by
    rcases lev (qp3.2 ib.2.1) with e | e | e | e | e<;>rw [e]<;>decide
  rw [qjn,qj3,qj3]
  by_cases z1:a.2.1=0
  · have sf:sib a b=false:=by
      rw [← Bool.not_eq_true]; intro hs; have:=q1k hs; omega
    rw [sf]
    by_cases z2:b.2.1=0
    · simp (disch:=omega) only [wk,bit,nI,qb9,ha,hb]
    · simp (disch:=omega) only [wk,bit,nI,qb9,ha,hb]
  · by_cases z2:b.2.1=0
    · have sf:sib a b=false:=by
        rw [← Bool.not_eq_true]; intro hs
        simp only [sib,Bool.and_eq_true,decide_eq_true_eq] at hs
        omega
      rw [sf]
      simp (disch:=omega) only [wk,bit,nI,qb9,ha,hb]
    · unfold sib
      rw [ha,hb]
      simp (disch:=omega) only [wk,bit,nI,qb9,ha,hb,ea,da,db]
      by_cases h1:a.1=b.1
      · by_cases h2:a.2.1=b.2.1
        · by_cases h3:a.2.2 % 2=0
          · by_cases h5:b.2.2=a.2.2+1
            · simp (disch:=omega) only [wk,bit,nI]
            · by_cases h6:a.2.2 / 2=b.2.2 / 2
              · simp (disch:=omega) only [wk,bit,nI]
              · simp (disch:=omega) only [wk,bit,nI]
          · by_cases h6:a.2.2 / 2=b.2.2 / 2
            · simp (disch:=omega) only [wk,bit,nI]
            · simp (disch:=omega) only [wk,bit,nI]
        · simp (disch:=omega) only [wk,bit,nI]
      · simp (disch:=omega) only [wk,bit,nI]
theorem qgs (k:Nat)(hk:2000000≤k)(r:Int)(z:Bool)(l:List Cell)(h:qv6 r 0 l=true)(i:Nat)(hi:i+1<l.length):
    go (k+4) spec_l06May [.agg [.int .i64 r,.arr false z (.r3 l)],.int .i64 (i:Int)]=some [.bool (mayC l i)]:=by
  rw [qny]
  have L:=qwb h
  have id:=fun j (hj:j<l.length)=>((qwa _ _ _ h).2.2.2.1 _ hj).2.2
  have eS:=qfz (id i (by omega)) (id (i+1) hi) k (by omega)
  unfold mayC
  simp (disch:=omega) only [wk,bit,nI,eS]
  cases sib (l.getD i zz3) (l.getD (i+1) zz3)
  · simp (disch:=omega) only [wk,bit,nI]
  by_cases h0:i=0
  · subst h0
    by_cases h1:l.length≤2
    · simp (disch:=omega) only [wk,bit,nI]
    · simp only [qte]
      simp (disch:=omega) only [wk,bit,nI,Nat.zero_add]
  · by_cases h1:l.length≤i+2
    · simp only [qte]
      by_cases h2:(l.getD (i - 1) zz3).2.1≤(l.getD i zz3).2.1
      · simp (disch:=omega) only [wk,bit,nI,qhj]
      · simp (disch:=omega) only [wk,bit,nI,qhj]
    · simp only [qte]
      by_cases h2:(l.getD (i - 1) zz3).2.1≤(l.getD i zz3).2.1
      · simp (disch:=omega) only [wk,bit,nI,qhj]
      · simp (disch:=omega) only [wk,bit,nI,qhj]
theorem qdv (k:Nat)(hk:2000000≤k)(r:Int)(z:Bool)(l:List Cell)(h:qv6 r 0 l=true)(i:Nat)(hi:i+1<l.length):
    go (k+6) impl_Mesh_mayCoarsen [.agg [.int .i64 r,.arr false z (.r3 l)],.int .i64 (i:Int)]=some [.bool (mayC l i)]:=by
  rw [qjy]
  have L:=qwb h
  have id:=fun j (hj:j<l.length)=>((qwa _ _ _ h).2.2.2.1 _ hj).2.2
  have eS:=qcd (id i (by omega)) (id (i+1) hi) k (by omega)
  have b1:inR (i:Int) 0 ((l.length:Int) - 1)=true:=qp3.2 (by omega)
  have b2:inR ((i+1:Nat):Int) 0 ((l.length:Int) - 1)=true:=qp3.2 (by omega)
  unfold mayC
  simp (disch:=omega) only [wk,bit,nI,qdk,b1,b2,eS]
  cases sib (l.getD i zz3) (l.getD (i+1) zz3)
  · simp (disch:=omega) only [wk,bit,nI]
  by_cases h0:i=0
  · subst h0
    have b3:inR (((0:Nat):Int) - 1) 0 ((l.length:Int) - 1)=false:=by rw [← Bool.not_eq_true,qp3]; omega
    by_cases h1:l.length≤2
    · have b4:inR ((0+2:Nat):Int) 0 ((l.length:Int) - 1)=false:=by rw [← Bool.not_eq_true,qp3]; omega
      simp (disch:=omega) only [wk,bit,nI,qdk,b3,b4]
    · have b4:inR ((0+2:Nat):Int) 0 ((l.length:Int) - 1)=true:=qp3.2 (by omega)
      simp only [qte]
      by_cases h3:(l.getD (0+2) zz3).2.1≤(l.getD 0 zz3).2.1
      · simp (disch:=omega) only [wk,bit,nI,qdk,b3,b4]
      · simp (disch:=omega) only [wk,bit,nI,qdk,b3,b4]
  · have ci:(i:Int) - 1=((i - 1:Nat):Int):=by omega
    have b3:inR (((i - 1:Nat):Nat):Int) 0 ((l.length:Int) - 1)=true:=qp3.2 (by omega)
    simp only [qte]
    by_cases h2:(l.getD (i - 1) zz3).2.1≤(l.getD i zz3).2.1
    · by_cases h1:l.length≤i+2
      · have b4:inR ((i+2:Nat):Int) 0 ((l.length:Int) - 1)=false:=by rw [← Bool.not_eq_true,qp3]; omega
        simp (disch:=omega) only [wk,bit,nI,ci,qdk,b3,b4]
      · have b4:inR ((i+2:Nat):Int) 0 ((l.length:Int) - 1)=true:=qp3.2 (by omega)
        by_cases h3:(l.getD (i+2) zz3).2.1≤(l.getD i zz3).2.1
        · simp (disch:=omega) only [wk,bit,nI,ci,qdk,b3,b4]
        · simp (disch:=omega) only [wk,bit,nI,ci,qdk,b3,b4]
    · simp (disch:=omega) only [wk,bit,nI,ci,qdk,b3]
def toR (l:List Cell):Int:=if unb l<0 then unb l else ((qif l (unb l).toNat:Nat):Int)
theorem qeb (k:Nat)(hk:2000000≤k)(r:Int)(z:Bool)(l:List Cell)(h:qv6 r 0 l=true):go (k+3) impl_Mesh_toRefine [.agg [.int .i64 r,.arr false z (.r3 l)]]=some [.int .i64 (toR l)]:=by
  rw [qj1]
  have L:=qwb h
  have mv:=qwc _ _ _ h
  rw [qec k (by omega) _ _ _ (by omega) mv]
  unfold toR
  by_cases g:unb l<0
  · rw [if_pos g]; simp (disch:=omega) only [wk,bit,nI]
  · rw [if_neg g]
    obtain ⟨j,e,h1,h2⟩:=q3o (by omega:0≤unb l)
    rw [e,Int.toNat_natCast]
    unfold qif
    by_cases g2:qte l (j+1)<qte l j
    · rw [if_pos g2]; simp only [qte] at g2; simp (disch:=omega) only [wk,bit,nI]
    · rw [if_neg g2]; simp only [qte] at g2; simp (disch:=omega) only [wk,bit,nI]
theorem quf (k:Nat)(hk:2000000≤k)(fu:List (Nat×Nat))(w0:Int)(v1:Bool)(w1:List Cell)(v2:Bool)(w2:List Int)(v3:Bool)(w3:List Int)(v4:Bool)(w4:List Int)(r:Int)(b:List Int): ∀ (N n:Nat)(s:S3),N<n→StU r s b→129≤N+s.1.length→
    lp (k+3) impl_State_balance [.ptr true [.int .i64 w0,.arr true v1 (.r3 w1),.arr true v2 (.ints .i64 w2),.arr true v3 (.ints .i64 w3),.arr true v4 (.ints .i64 w4)]] fu 1 n (qzl (toR s.1) false s.1 false s.2.1 false s.2.2 false b r)=some [.ptr true [.int .i64 (r),.arr true (false) (.r3 ((lvS N s).1)),.arr true (false) (.ints .i64 ((lvS N s).2.1)),.arr true (false) (.ints .i64 ((lvS N s).2.2)),.arr true (false) (.ints .i64 (b))]]
  | N,0,s,hn,U,hN=>by omega
  | 0,n+1,s,hn,U,hN=>by have:=U.len; omega
  | N+1,n+1,s,hn,U,hN=>by
    rw [qro]
    have L:=U.len
    unfold lvS toR
    by_cases g:unb s.1<0
    · rw [if_pos g,if_pos g]; simp (disch:=omega) only [wk,bit,nI]
    · rw [if_neg g,if_neg g]
      obtain ⟨j,e,h1,h2⟩:=q3o (by omega:0≤unb s.1)
      have c:=qig U.mesh h1 h2
      rw [e,Int.toNat_natCast]
      have U' :=rf_U U c.1 c.2
      have IH:=quf k hk fu w0 v1 w1 v2 w2 v3 w3 v4 w4 r b N n _ (by omega) U' (by show 129≤N+(q1y s.1 _).length; rw [q1z c.1]; omega)
      have eR:=qd2 k (by omega) r s b U (qif s.1 j) c.1 c.2
      have eT:=qeb k (by omega) r false _ U'.mesh
      simp (disch:=omega) only [wk,bit,nI,eR,qxs,qxt,qxu,q3k,q3l,eT,IH]
theorem qc7 (k:Nat)(hk:2000000≤k)(r:Int)(s:S3)(b:List Int)(U:StU r s b):go (k+4) impl_State_balance [.ptr true [.int .i64 (r),.arr true (false) (.r3 (s.1)),.arr true (false) (.ints .i64 (s.2.1)),.arr true (false) (.ints .i64 (s.2.2)),.arr true (false) (.ints .i64 (b))]]=some [.ptr true [.int .i64 (r),.arr true (false) (.r3 ((lvS 128 s).1)),.arr true (false) (.ints .i64 ((lvS 128 s).2.1)),.arr true (false) (.ints .i64 ((lvS 128 s).2.2)),.arr true (false) (.ints .i64 (b))]]:=by
  rw [qkg]
  have eT:=qeb k (by omega) r false _ U.mesh
  have L:=U.len
  simp (disch:=omega) only [wk,bit,nI,eT]
  exact quf k hk [] _ _ _ _ _ _ _ _ _ r b 128 _ s (by omega) U (by omega)
theorem qvn (k:Nat)(hk:2000000≤k)(fu:List (Nat×Nat))(z10:Bool)(l11:List Cell)(z12:Bool)(l13:List Int)(z14:Bool)(l15:List Int)(z16:Bool)(l17:List Int)(x18:Int)(r:Int)(b:List Int): ∀ (N n:Nat)(s:S3),N<n→StU r s b→129≤N+s.1.length→
    lp (k+5) spec_l08Level [] fu 2 (n) (q0u (unb s.1) false s.1 false s.2.1 false s.2.2 false b r z10 l11 z12 l13 z14 l15 z16 l17 x18)=some [.agg [.int .i64 (r),.arr true (false) (.r3 ((lvS N s).1)),.arr true (false) (.ints .i64 ((lvS N s).2.1)),.arr true (false) (.ints .i64 ((lvS N s).2.2)),.arr true (false) (.ints .i64 (b))]]
  | N,0,s,hn,U,hN=>by omega
  | 0,n+1,s,hn,U,hN=>by have:=U.len; omega
  | N+1,n+1,s,hn,U,hN=>by
    rw [qsx]
    have L:=U.len
    unfold lvS
    by_cases g:unb s.1<0
    · rw [if_pos g]; simp (disch:=omega) only [wk,bit,nI]
    · rw [if_neg g]
      obtain ⟨j,e,h1,h2⟩:=q3o (by omega:0≤unb s.1)
      have c:=qig U.mesh h1 h2
      rw [e,Int.toNat_natCast]
      have U' :=rf_U U c.1 c.2
      have L' :=U'.len
      have IH:=qvn k hk fu z10 l11 z12 l13 z14 l15 z16 l17 x18 r b N n _ (by omega) U' (by show 129≤N+(q1y s.1 _).length; rw [q1z c.1]; omega)
      have eC:=qgo (k+4) (by omega) r false s.1 j (by omega) h1
      have eR:=qgx k (by omega) r s b U (qif s.1 j) c.1 c.2
      have eT:=qgq (k+4) (by omega) r false (rfS s (qif s.1 j)).1 (by omega) (qwc _ _ _ U'.mesh)
      simp (disch:=omega) only [wk,bit,nI,eC,eR,eT,IH]
theorem qhb (k:Nat)(hk:2000000≤k)(r:Int)(s:S3)(b:List Int)(U:StU r s b):go (k+6) spec_l08Level [.agg [.int .i64 (r),.arr true (false) (.r3 (s.1)),.arr true (false) (.ints .i64 (s.2.1)),.arr true (false) (.ints .i64 (s.2.2)),.arr true (false) (.ints .i64 (b))]]=some [.agg [.int .i64 (r),.arr true (false) (.r3 ((lvS 128 s).1)),.arr true (false) (.ints .i64 ((lvS 128 s).2.1)),.arr true (false) (.ints .i64 ((lvS 128 s).2.2)),.arr true (false) (.ints .i64 (b))]]:=by
  rw [qn2]
  have L:=U.len
  have eT:=qgq (k+4) (by omega) r false s.1 (by omega) (qwc _ _ _ U.mesh)
  simp (disch:=omega) only [wk,bit,nI,eT]
  exact qvn k hk [] _ _ _ _ _ _ _ _ _ r b 128 _ s (by omega) U (by omega)
end Go.Proofs.YtjfjniebmdafeaaGreatDoor
end
section
namespace Go.Proofs.YtjfjniebmdafeaaGreatDoor
open Go.Ev
set_option maxRecDepth 20000
theorem len2 (x y:Int):List.length [x,y]=2:=Eq.trans rfl rfl
theorem gd0 (x y:Int):List.getD [x,y] 0 0=x:=Eq.trans rfl rfl
theorem gd1 (x y:Int):List.getD [x,y] 1 0=y:=Eq.trans rfl rfl
theorem len1 (x:Int):List.length [x]=1:=Eq.trans rfl rfl
theorem len0:List.length ([]:List Int)=0:=Eq.trans rfl rfl
theorem gdo (x:Int):List.getD [x] 0 0=x:=Eq.trans rfl rfl
theorem ton1:Int.toNat 1=1:=Eq.trans rfl rfl
def nb (l:List Cell)(i:Nat):List Int:=if 0<i then (if i+1<l.length then [((i - 1:Nat):Int),((i+1:Nat):Int)] else [((i - 1:Nat):Int)]) else (if i+1<l.length then [((i+1:Nat):Int)] else [])
theorem qdx (k:Nat)(hk:2000000≤k)(r:Int)(z:Bool)(l:List Cell)(h:qv6 r 0 l=true)(i:Nat)(hi:i<l.length):
    go (k+3) impl_Mesh_neighbours [.agg [.int .i64 r,.arr false z (.r3 l)],.int .i64 (i:Int)]=some [.arr true false (.ints .i64 (nb l i))]:=by
  rw [qjz]
  have L:=qwb h
  have w1:IntKind.wrap .i64 ((i:Int) - 1)=(i:Int) - 1:=q4c (by omega) (by omega)
  have w2:IntKind.wrap .i64 ((i:Int)+1)=((i+1:Nat):Int):=by rw [q4c (by omega) (by omega)]; omega
  have w3:IntKind.wrap .i64 ((0:Int)+1)=1:=by rw [q4c (by omega) (by omega)]; rfl
  have w4:IntKind.wrap .i64 ((1:Int)+1)=2:=by rw [q4c (by omega) (by omega)]; rfl
  rw [w1,w2,len2]
  have n2:nI 2=2:=Eq.trans rfl rfl
  rw [n2]
  have la: ∀ x:Int,([]++[x]:List Int).length=1:=fun x=>rfl
  have lb: ∀ x y:Int,([x]++[y]:List Int).length=2:=fun x y=>rfl
  have f0:=qrh (k+2) (k+2 - 1) [] 2 0 z l r false [] false [(i:Int) - 1,((i+1:Nat):Int)]
  have f1:=fun x=>qrh (k+2) (k+2 - 2) [] 2 1 z l r false x false [(i:Int) - 1,((i+1:Nat):Int)]
  have f2:=fun x=>qrh (k+2) (k+2 - 3) [] 2 2 z l r false x false [(i:Int) - 1,((i+1:Nat):Int)]
  rw [show k+2 - 1+1=k+2 by omega] at f0
  rw [show k+2 - 2+1=k+2 - 1 by omega] at f1
  rw [show k+2 - 3+1=k+2 - 2 by omega] at f2
  simp (disch:=omega) only [wk,bit,nI,len2] at f2
  unfold nb
  by_cases h0:0<i
  · have b1:inR ((i:Int) - 1) 0 ((l.length:Int) - 1)=true:=qp3.2 (by omega)
    have ci:(i:Int) - 1=((i - 1:Nat):Int):=by omega
    rw [if_pos h0]
    by_cases h1:i+1<l.length
    · have b2:inR ((i+1:Nat):Int) 0 ((l.length:Int) - 1)=true:=qp3.2 (by omega)
      rw [if_pos h1]
      simp (disch:=omega) only [wk,bit,nI,len2,ton1,gd1,qdk,b2,w4,lb,f2] at f1
      simp (disch:=omega) only [wk,bit,nI,len2,ton0,gd0,qdk,b1,w3,len1,lb,f1] at f0
      rw [← ci]; exact f0
    · have b2:inR ((i+1:Nat):Int) 0 ((l.length:Int) - 1)=false:=by rw [← Bool.not_eq_true,qp3]; omega
      rw [if_neg h1]
      simp (disch:=omega) only [wk,bit,nI,len2,ton1,gd1,qdk,b2,w4,lb,f2] at f1
      simp (disch:=omega) only [wk,bit,nI,len2,ton0,gd0,qdk,b1,w3,len1,lb,f1] at f0
      rw [← ci]; exact f0
  · have b1:inR ((i:Int) - 1) 0 ((l.length:Int) - 1)=false:=by rw [← Bool.not_eq_true,qp3]; omega
    rw [if_neg h0]
    by_cases h1:i+1<l.length
    · have b2:inR ((i+1:Nat):Int) 0 ((l.length:Int) - 1)=true:=qp3.2 (by omega)
      rw [if_pos h1]
      simp (disch:=omega) only [wk,bit,nI,len2,ton1,gd1,qdk,b2,w4,la,lb,f2] at f1
      have f1' :=f1 []
      simp (disch:=omega) only [wk,bit,nI,len1] at f1'
      simp (disch:=omega) only [wk,bit,nI,len2,ton0,gd0,qdk,b1,w3,la,f1'] at f0
      exact f0
    · have b2:inR ((i+1:Nat):Int) 0 ((l.length:Int) - 1)=false:=by rw [← Bool.not_eq_true,qp3]; omega
      rw [if_neg h1]
      simp (disch:=omega) only [wk,bit,nI,len2,ton1,gd1,qdk,b2,w4,lb,f2] at f1
      simp (disch:=omega) only [wk,bit,nI,len2,ton0,gd0,qdk,b1,w3,la,f1] at f0
      exact f0
def jmp (l:List Cell)(m b:List Int)(i:Nat):Int:=max (if 0<i then gap (surf l m b i) (surf l m b (i - 1)) else 0) (if i+1<l.length then gap (surf l m b i) (surf l m b (i+1)) else 0)
theorem qph (a b:Int):0≤gap a b:=by unfold gap; split<;>omega
theorem qpg (a b:Int):max (0 - (a - b)) (a - b)=gap a b:=by unfold gap; split<;>omega
theorem qg4 (k:Nat)(hk:2000000≤k)(r:Int)(z1 z2 z3 z4:Bool)(l:List Cell)(m t b:List Int)(F:StF r l m t b)(i:Nat)(hi:i<l.length):
    go (k+2) spec_l16Jump [.agg [.int .i64 (r),.arr false (z1) (.r3 (l)),.arr false (z2) (.ints .i64 (m)),.arr false (z3) (.ints .i64 (t)),.arr false (z4) (.ints .i64 (b))],.int .i64 (i:Int)]=some [.int .i64 (jmp l m b i)]:=by
  rw [qof]
  have L:=F.len; have ml:=F.ml
  have s0:=q2u F i; have s1:=q2u F (i - 1); have s2:=q2u F (i+1)
  have g1:=qph (surf l m b i) (surf l m b (i - 1)); have g2:=qph (surf l m b i) (surf l m b (i+1))
  have e0:=qg1 k (by omega) r z1 z2 z3 z4 l m t b F i hi
  unfold jmp
  by_cases h0:0<i
  · have ci:(i:Int) - 1=((i - 1:Nat):Int):=by omega
    have e1:=qg1 k (by omega) r z1 z2 z3 z4 l m t b F (i - 1) (by omega)
    rw [if_pos h0]
    by_cases h1:i+1<l.length
    · have e2:=qg1 k (by omega) r z1 z2 z3 z4 l m t b F (i+1) (by omega)
      rw [if_pos h1]
      simp (disch:=omega) only [wk,bit,nI,e0,e1,e2,ci,qgz]
      rw [show ∀ x y:Int,max x y=max y x from fun x y=>by omega]
    · rw [if_neg h1]
      simp (disch:=omega) only [wk,bit,nI,e0,e1,ci,qgz]
      rw [show max (gap (surf l m b i) (surf l m b (i - 1))) 0=gap (surf l m b i) (surf l m b (i - 1)) by omega]
  · rw [if_neg h0]
    by_cases h1:i+1<l.length
    · have e2:=qg1 k (by omega) r z1 z2 z3 z4 l m t b F (i+1) (by omega)
      rw [if_pos h1]
      simp (disch:=omega) only [wk,bit,nI,e0,e2,qgz]
      rw [show ∀ x y:Int,max x y=max y x from fun x y=>by omega]
    · rw [if_neg h1]
      simp (disch:=omega) only [wk,bit,nI]
      rfl
set_option maxHeartbeats 4000000 in
theorem qds (k:Nat)(hk:2000000≤k)(r:Int)(z1 z2 z3 z4:Bool)(l:List Cell)(m t b:List Int)(F:StF r l m t b)(i:Nat)(hi:i<l.length):
    go (k+4) impl_State_jump [.agg [.int .i64 (r),.arr false (z1) (.r3 (l)),.arr false (z2) (.ints .i64 (m)),.arr false (z3) (.ints .i64 (t)),.arr false (z4) (.ints .i64 (b))],.int .i64 (i:Int)]=some [.int .i64 (jmp l m b i)]:=by
  rw [qkn]
  have L:=F.len; have ml:=F.ml
  have s0:=q2u F i; have s1:=q2u F (i - 1); have s2:=q2u F (i+1)
  have g1:=qph (surf l m b i) (surf l m b (i - 1)); have g2:=qph (surf l m b i) (surf l m b (i+1))
  have e0:=qea (k+2) (by omega) r z1 z2 z3 z4 l m t b F i hi
  have eN:=qdx k (by omega) r z1 l F.mesh i hi
  have w3:IntKind.wrap .i64 ((0:Int)+1)=1:=by rw [q4c (by omega) (by omega)]; rfl
  have w4:IntKind.wrap .i64 ((1:Int)+1)=2:=by rw [q4c (by omega) (by omega)]; rfl
  have n2:((2:Nat):Int)=2:=Eq.trans rfl rfl
  have n1:((1:Nat):Int)=1:=Eq.trans rfl rfl
  have n0:((0:Nat):Int)=0:=Eq.trans rfl rfl
  unfold jmp
  simp (disch:=omega) only [wk,bit,nI,eN]
  unfold nb
  by_cases h0:0<i
  · have e1:=qea (k+2) (by omega) r z1 z2 z3 z4 l m t b F (i - 1) (by omega)
    rw [if_pos h0,if_pos h0]
    by_cases h1:i+1<l.length
    · have e2:=qea (k+2) (by omega) r z1 z2 z3 z4 l m t b F (i+1) (by omega)
      rw [if_pos h1,if_pos h1]
      have f0:=fun y=>qrr (k+3) (k+3 - 1) [] (i:Int) y 2 0 z1 l z2 m z3 t z4 b r false [((i - 1:Nat):Int),((i+1:Nat):Int)]
      have f1:=fun y=>qrr (k+3) (k+3 - 2) [] (i:Int) y 2 1 z1 l z2 m z3 t z4 b r false [((i - 1:Nat):Int),((i+1:Nat):Int)]
      have f2:=fun y=>qrr (k+3) (k+3 - 3) [] (i:Int) y 2 2 z1 l z2 m z3 t z4 b r false [((i - 1:Nat):Int),((i+1:Nat):Int)]
      rw [show k+3 - 1+1=k+3 by omega] at f0
      rw [show k+3 - 2+1=k+3 - 1 by omega] at f1
      rw [show k+3 - 3+1=k+3 - 2 by omega] at f2
      simp (disch:=omega) only [wk,bit,nI,len2] at f2
      simp (disch:=omega) only [wk,bit,nI,len2,ton1,gd1,e0,e2,qc3,qpg,w4,f2] at f1
      simp (disch:=omega) only [wk,bit,nI,len2,ton0,gd0,e0,e1,qc3,qpg,w3,f1] at f0
      rw [len2,n2,f0,show ∀ x y:Int,0≤x→max y (max x 0)=max x y from fun x y h=>by omega]
      exact g1
    · rw [if_neg h1,if_neg h1]
      have f0:=fun y=>qrr (k+3) (k+3 - 1) [] (i:Int) y 1 0 z1 l z2 m z3 t z4 b r false [((i - 1:Nat):Int)]
      have f1:=fun y=>qrr (k+3) (k+3 - 2) [] (i:Int) y 1 1 z1 l z2 m z3 t z4 b r false [((i - 1:Nat):Int)]
      rw [show k+3 - 1+1=k+3 by omega] at f0
      rw [show k+3 - 2+1=k+3 - 1 by omega] at f1
      simp (disch:=omega) only [wk,bit,nI,len1] at f1
      simp (disch:=omega) only [wk,bit,nI,len1,ton0,gdo,e0,e1,qc3,qpg,w3,f1] at f0
      rw [len1,n1,f0]
  · rw [if_neg h0,if_neg h0]
    by_cases h1:i+1<l.length
    · have e2:=qea (k+2) (by omega) r z1 z2 z3 z4 l m t b F (i+1) (by omega)
      rw [if_pos h1,if_pos h1]
      have f0:=fun y=>qrr (k+3) (k+3 - 1) [] (i:Int) y 1 0 z1 l z2 m z3 t z4 b r false [((i+1:Nat):Int)]
      have f1:=fun y=>qrr (k+3) (k+3 - 2) [] (i:Int) y 1 1 z1 l z2 m z3 t z4 b r false [((i+1:Nat):Int)]
      rw [show k+3 - 1+1=k+3 by omega] at f0
      rw [show k+3 - 2+1=k+3 - 1 by omega] at f1
      simp (disch:=omega) only [wk,bit,nI,len1] at f1
      simp (disch:=omega) only [wk,bit,nI,len1,ton0,gdo,e0,e2,qc3,qpg,w3,f1] at f0
      rw [len1,n1,f0,show ∀ x:Int,max x 0=max 0 x from fun x=>by omega]
    · rw [if_neg h1,if_neg h1]
      have f0:=fun y=>qrr (k+3) (k+3 - 1) [] (i:Int) y 0 0 z1 l z2 m z3 t z4 b r false []
      rw [show k+3 - 1+1=k+3 by omega] at f0
      simp (disch:=omega) only [wk,bit,nI,len0] at f0
      rw [len0,n0,f0]
      rfl
def wsh (l:List Cell)(m b:List Int)(hi lo:Int)(i:Nat):Int:=if hi<jmp l m b i∧qte l i<4 then 1 else if jmp l m b i<lo∧0<qte l i then -1 else 0
theorem q24 (n:Nat)(g:Nat→Int):tab (n+1) g=tab n g++[g n]:=by
  unfold tab; rw [List.range_succ,List.map_append]; rfl
theorem qqv {r:Int}{l:List Cell}{m t b:List Int}(F:StF r l m t b)(i:Nat):0≤jmp l m b i∧jmp l m b i≤161000000:=by
  have s0:=q2u F i; have s1:=q2u F (i - 1); have s2:=q2u F (i+1)
  unfold jmp gap
  by_cases h0:0<i
  · rw [if_pos h0]
    by_cases h1:i+1<l.length
    · rw [if_pos h1]; omega
    · rw [if_neg h1]; omega
  · rw [if_neg h0]
    by_cases h1:i+1<l.length
    · rw [if_pos h1]; omega
    · rw [if_neg h1]; omega
theorem qvj (k:Nat)(hk:2000000≤k)(fu:List (Nat×Nat))(hi lo r:Int)(z1 z2 z3 z4:Bool)(l:List Cell)(m t b:List Int)(F:StF r l m t b): ∀ (N i:Nat),i≤l.length→l.length - i<N→
    lp (k+2) spec_l16Wishes [] fu 3 (N) (q00 hi lo (i:Int) z1 l z2 m z3 t z4 b r false (tab i (wsh l m b hi lo)))=some [.arr true false (.ints .i64 (tab l.length (wsh l m b hi lo)))]
  | 0,i,hl,hN=>by omega
  | N+1,i,hl,hN=>by
    rw [qs3]
    have L:=F.len; have ml:=F.ml
    by_cases g:i<l.length
    · have IH:=qvj k hk fu hi lo r z1 z2 z3 z4 l m t b F N (i+1) (by omega) (by omega)
      have eJ:=qg4 k (by omega) r z1 z2 z3 z4 l m t b F i g
      have la: ∀ x:Int,(tab i (wsh l m b hi lo)++[x]).length=i+1:=fun x=>by rw [List.length_append,q20]; rfl
      rw [q24] at IH
      have jb:=qqv F i
      simp only [wsh,qte] at IH
      by_cases h1:hi<jmp l m b i
      · by_cases h2:(l.getD i zz3).2.1<4
        · rw [if_pos ⟨h1,h2⟩] at IH; simp (disch:=omega) only [wk,bit,nI,eJ,la,IH]
        · rw [if_neg (fun h=>h2 h.2)] at IH
          by_cases h3:jmp l m b i<lo
          · have h4:0<(l.getD i zz3).2.1:=by omega
            rw [if_pos ⟨h3,h4⟩] at IH; simp (disch:=omega) only [wk,bit,nI,eJ,la,IH]
          · rw [if_neg (fun h=>h3 h.1)] at IH; simp (disch:=omega) only [wk,bit,nI,eJ,la,IH]
      · rw [if_neg (fun h=>h1 h.1)] at IH
        by_cases h3:jmp l m b i<lo
        · by_cases h4:0<(l.getD i zz3).2.1
          · rw [if_pos ⟨h3,h4⟩] at IH; simp (disch:=omega) only [wk,bit,nI,eJ,la,IH]
          · rw [if_neg (fun h=>h4 h.2)] at IH; simp (disch:=omega) only [wk,bit,nI,eJ,la,IH]
        · rw [if_neg (fun h=>h3 h.1)] at IH; simp (disch:=omega) only [wk,bit,nI,eJ,la,IH]
    · simp (disch:=omega) only [wk,bit,nI]
      rw [show i=l.length by omega]
theorem qud (k:Nat)(hk:2000000≤k)(fu:List (Nat×Nat))(hi lo r:Int)(z1 z2 z3 z4:Bool)(l:List Cell)(m t b:List Int)(F:StF r l m t b): ∀ (N i:Nat),i≤l.length→l.length - i<N→
    lp (k+8) impl_Wishes [] fu 5 (N) (qzw hi lo (l.length:Int) (i:Int) z1 l z2 m z3 t z4 b r false (tab i (wsh l m b hi lo)))=some [.arr true false (.ints .i64 (tab l.length (wsh l m b hi lo)))]
  | 0,i,hl,hN=>by omega
  | N+1,i,hl,hN=>by
    rw [qrz]
    have L:=F.len; have ml:=F.ml
    by_cases g:i<l.length
    · have IH:=qud k hk fu hi lo r z1 z2 z3 z4 l m t b F N (i+1) (by omega) (by omega)
      have eJ:=qds (k+4) (by omega) r z1 z2 z3 z4 l m t b F i g
      have la: ∀ x:Int,(tab i (wsh l m b hi lo)++[x]).length=i+1:=fun x=>by rw [List.length_append,q20]; rfl
      rw [q24] at IH
      have jb:=qqv F i
      simp only [wsh,qte] at IH
      by_cases h1:hi<jmp l m b i
      · by_cases h2:(l.getD i zz3).2.1<4
        · rw [if_pos ⟨h1,h2⟩] at IH; simp (disch:=omega) only [wk,bit,nI,eJ,la,IH]
        · rw [if_neg (fun h=>h2 h.2)] at IH
          by_cases h3:jmp l m b i<lo
          · have h4:0<(l.getD i zz3).2.1:=by omega
            rw [if_pos ⟨h3,h4⟩] at IH; simp (disch:=omega) only [wk,bit,nI,eJ,la,IH]
          · rw [if_neg (fun h=>h3 h.1)] at IH; simp (disch:=omega) only [wk,bit,nI,eJ,la,IH]
      · rw [if_neg (fun h=>h1 h.1)] at IH
        by_cases h3:jmp l m b i<lo
        · by_cases h4:0<(l.getD i zz3).2.1
          · rw [if_pos ⟨h3,h4⟩] at IH; simp (disch:=omega) only [wk,bit,nI,eJ,la,IH]
          · rw [if_neg (fun h=>h4 h.2)] at IH; simp (disch:=omega) only [wk,bit,nI,eJ,la,IH]
        · rw [if_neg (fun h=>h3 h.1)] at IH; simp (disch:=omega) only [wk,bit,nI,eJ,la,IH]
    · simp (disch:=omega) only [wk,bit,nI]
      rw [show i=l.length by omega]
theorem qgg (k:Nat)(hk:2000000≤k)(hi lo r:Int)(z1 z2 z3 z4:Bool)(l:List Cell)(m t b:List Int)(F:StF r l m t b):
    go (k+3) spec_l16Wishes [.agg [.int .i64 (r),.arr false (z1) (.r3 (l)),.arr false (z2) (.ints .i64 (m)),.arr false (z3) (.ints .i64 (t)),.arr false (z4) (.ints .i64 (b))],.int .i64 hi,.int .i64 lo]=some [.arr true false (.ints .i64 (tab l.length (wsh l m b hi lo)))]:=by
  rw [qog]
  have L:=F.len
  exact qvj k hk [] hi lo r z1 z2 z3 z4 l m t b F _ 0 (by omega) (by omega)
theorem qc0 (k:Nat)(hk:2000000≤k)(hi lo r:Int)(z1 z2 z3 z4:Bool)(l:List Cell)(m t b:List Int)(F:StF r l m t b):
    go (k+9) impl_Wishes [.agg [.int .i64 (r),.arr false (z1) (.r3 (l)),.arr false (z2) (.ints .i64 (m)),.arr false (z3) (.ints .i64 (t)),.arr false (z4) (.ints .i64 (b))],.int .i64 hi,.int .i64 lo]=some [.arr true false (.ints .i64 (tab l.length (wsh l m b hi lo)))]:=by
  rw [qk2]
  have L:=F.len; have ml:=F.ml; have bl:=F.bl; have rr:=F.rr
  have g:=stF.2 F
  simp (disch:=omega) only [wk,bit,nI,qcw,g]
  exact qud k hk [] hi lo r z1 z2 z3 z4 l m t b F _ 0 (by omega) (by omega)
end Go.Proofs.YtjfjniebmdafeaaGreatDoor
end
section
namespace Go.Proofs.YtjfjniebmdafeaaGreatDoor
open Go.Ev
set_option maxRecDepth 20000
def qtq (x:Cell):List Cell→Nat→Int
  | [],_=> -1
  | y::r,i=>if y=x then (i:Int) else qtq x r (i+1)
def lof (l:List Cell)(x:Cell):Int:=qtq x l 0
theorem qvb (k:Nat)(hk:2000000≤k)(fu:List (Nat×Nat))(r:Int)(z:Bool)(l:List Cell)(x:Cell)(hl:l.length≤1048576): ∀ (N i:Nat),i≤l.length→l.length - i<N→
    lp k spec_LeafOf [] fu 2 (N) (q0i (i:Int) z l r x.1 x.2.1 x.2.2)=some [.int .i64 (qtq x (l.drop i) i)]
  | 0,i,hi,hN=>by omega
  | N+1,i,hi,hN=>by
    rw [qsl]
    by_cases g:i<l.length
    · have IH:=qvb k hk fu r z l x hl N (i+1) (by omega) (by omega)
      rw [qi5 g zz3,qtq]
      by_cases h:l.getD i zz3=x
      · rw [if_pos h]; simp (disch:=omega) only [wk,bit,nI,h]
      · rw [if_neg h]
        have:(decide ((l.getD i zz3).1=x.1)&&(decide ((l.getD i zz3).2.1=x.2.1)&&decide ((l.getD i zz3).2.2=x.2.2)))=false:=by
          rw [← Bool.not_eq_true]
          intro e
          simp only [Bool.and_eq_true,decide_eq_true_eq] at e
          exact h (Prod.ext e.1 (Prod.ext e.2.1 e.2.2))
        simp (disch:=omega) only [wk,bit,nI,this,IH]
    · rw [List.drop_of_length_le (by omega)]; simp (disch:=omega) only [wk,bit,nI]; rfl
theorem qf1 (k:Nat)(hk:2000000≤k)(r:Int)(z:Bool)(l:List Cell)(x:Cell)(hl:l.length≤1048576):go (k+1) spec_LeafOf [.agg [.int .i64 r,.arr false z (.r3 l)],.agg [.int .i64 x.1,.int .i64 x.2.1,.int .i64 x.2.2]]=some [.int .i64 (lof l x)]:=by
  rw [qna]
  exact qvb k hk [] r z l x hl _ 0 (by omega) (by omega)
theorem qtr (x:Cell): ∀ (l:List Cell)(i:Nat),(qtq x l i= -1∧x ∉ l)∨ ∃ j,j<l.length∧qtq x l i=((i+j:Nat):Int)∧l.getD j zz3=x
  | [],i=>Or.inl ⟨rfl,by simp⟩
  | y::r,i=>by
    unfold qtq
    by_cases h:y=x
    · rw [if_pos h]; exact Or.inr ⟨0,by simp,by simp,by simpa using h⟩
    · rw [if_neg h]
      rcases qtr x r (i+1) with ⟨e,n⟩ | ⟨j,hj,e,n⟩
      · exact Or.inl ⟨e,by simp only [List.mem_cons,not_or]; exact ⟨fun e=>h e.symm,n⟩⟩
      · exact Or.inr ⟨j+1,by simp; omega,by rw [e]; congr 1; omega,by simpa using n⟩
theorem qts (l:List Cell)(x:Cell):(lof l x= -1∧x ∉ l)∨ ∃ j,j<l.length∧lof l x=(j:Int)∧l.getD j zz3=x:=by
  rcases qtr x l 0 with h | ⟨j,hj,e,n⟩
  · exact Or.inl h
  · exact Or.inr ⟨j,hj,by unfold lof; rw [e,Nat.zero_add],n⟩
theorem qw7: ∀ (l:List Cell)(p:Int),okp p l=true→ ∀ x∈l,p≤q18 x.1 x.2.1 x.2.2
  | [],p,h,x,hx=>by cases hx
  | y::l,p,h,x,hx=>by
    rw [qw6] at h
    rcases List.mem_cons.1 hx with rfl | hx
    · omega
    · have:=qw7 l _ h.2.2 x hx
      have:=q35 y.2.1
      omega
theorem q38 {x:Cell}(h:idOk x.1 x.2.1 x.2.2=true):1≤q33 x.2.1:=by
  rcases lev (qp3.2 (qpz.1 h).2.1) with e | e | e | e | e<;>rw [e]<;>decide
theorem qw8: ∀ (l:List Cell)(p:Int),okp p l=true→ ∀ i j,i<l.length→j<l.length→l.getD i zz3=l.getD j zz3→i=j
  | [],p,h,i,j,hi,hj,e=>by simp at hi
  | y::l,p,h,0,0,hi,hj,e=>rfl
  | y::l,p,h,0,j+1,hi,hj,e=>by
    rw [qw6] at h
    have hj' :j<l.length:=by simpa using hj
    have:=qw7 l _ h.2.2 _ (qpj hj' zz3)
    have w:=q38 h.1
    simp only [List.getD_cons_zero,List.getD_cons_succ] at e
    rw [← e,h.2.1] at this
    omega
  | y::l,p,h,i+1,0,hi,hj,e=>by
    rw [qw6] at h
    have hi' :i<l.length:=by simpa using hi
    have:=qw7 l _ h.2.2 _ (qpj hi' zz3)
    have w:=q38 h.1
    simp only [List.getD_cons_zero,List.getD_cons_succ] at e
    rw [e,h.2.1] at this
    omega
  | y::l,p,h,i+1,j+1,hi,hj,e=>by
    rw [qw6] at h
    have:=qw8 l _ h.2.2 i j (by simpa using hi) (by simpa using hj) (by simpa using e)
    omega
def Pw (w:List Int)(l0:List Cell)(x:Cell):Bool:=decide (0≤lof l0 x)&&decide (w.getD (lof l0 x).toNat 0= -1)
theorem qah {w:List Int}{l0:List Cell}{p:Int}(h:okp p l0=true)(x:Cell):Pw w l0 x=true↔ ∃ j,j<l0.length∧w.getD j 0= -1∧l0.getD j zz3=x:=by
  unfold Pw
  rw [Bool.and_eq_true,decide_eq_true_eq,decide_eq_true_eq]
  rcases qts l0 x with ⟨e,n⟩ | ⟨j,hj,e,n⟩
  · rw [e]
    refine ⟨fun h=>by omega,fun ⟨j,hj,_,hx⟩=>absurd (hx ▸ qpj hj zz3) n⟩
  · rw [e,Int.toNat_natCast]
    refine ⟨fun h=>⟨j,hj,h.2,n⟩,fun ⟨q,hq,hw,hx⟩=>⟨by omega,?_⟩⟩
    have:=qw8 l0 p h q j hq hj (by rw [hx,n])
    rw [← this]; exact hw
def ks (w:List Int)(l0:List Cell):Nat→List Cell→List Cell
  | 0,acc=>acc
  | n+1,acc=>ks w l0 n (if w.getD n 0=1 then acc else if w.getD n 0= -1 then acc++[l0.getD n zz3] else acc)
theorem qq8 (w:List Int)(l0:List Cell)(x:Cell): ∀ (n:Nat)(acc:List Cell),x∈ks w l0 n acc↔x∈acc∨ ∃ j,j<n∧w.getD j 0= -1∧l0.getD j zz3=x
  | 0,acc=>⟨Or.inl,fun h=>h.elim id fun ⟨j,hj,_⟩=>by omega⟩
  | n+1,acc=>by
    rw [ks,qq8 w l0 x n]
    by_cases h1:w.getD n 0=1
    · rw [if_pos h1]
      refine ⟨fun h=>h.imp id fun ⟨j,hj,e⟩=>⟨j,by omega,e⟩,fun h=>h.imp id fun ⟨j,hj,e,e'⟩=>⟨j,?_,e,e'⟩⟩
      by_cases hjn:j=n
      · subst hjn; omega
      · omega
    · rw [if_neg h1]
      by_cases h2:w.getD n 0= -1
      · rw [if_pos h2,List.mem_append,List.mem_singleton]
        refine ⟨fun h=> ?_,fun h=> ?_⟩
        · rcases h with (h | h) | ⟨j,hj,e⟩
          · exact Or.inl h
          · exact Or.inr ⟨n,by omega,h2,h.symm⟩
          · exact Or.inr ⟨j,by omega,e⟩
        · rcases h with h | ⟨j,hj,e,e'⟩
          · exact Or.inl (Or.inl h)
          · by_cases hjn:j=n
            · subst hjn; exact Or.inl (Or.inr e'.symm)
            · exact Or.inr ⟨j,by omega,e,e'⟩
      · rw [if_neg h2]
        refine ⟨fun h=>h.imp id fun ⟨j,hj,e⟩=>⟨j,by omega,e⟩,fun h=>h.imp id fun ⟨j,hj,e,e'⟩=>⟨j,?_,e,e'⟩⟩
        by_cases hjn:j=n
        · subst hjn; exact absurd e h2
        · omega
theorem qps (l:List Cell)(x:Cell):hasK l x=true↔x∈l:=by
  unfold hasK
  rw [List.any_eq_true]
  refine ⟨fun ⟨y,hy,e⟩=> ?_,fun h=>⟨x,h,by simp [eqK]⟩⟩
  have:x=y:=by
    simp only [eqK,Bool.and_eq_true,beq_iff_eq,decide_eq_true_eq] at e
    exact Prod.ext e.1 (Prod.ext e.2.1 e.2.2)
  rw [this]; exact hy
theorem qpr {w:List Int}{l0:List Cell}{p:Int}(h:okp p l0=true)(x:Cell):hasK (ks w l0 l0.length []) x=Pw w l0 x:=by
  rw [Bool.eq_iff_iff,qps,qq8,qah h]
  simp
def adS (w:List Int)(s:S3):S3:=mgS (Pw w s.1) 128 0 (lvS 128 (spS w s.1.length s))
set_option maxHeartbeats 1000000 in
theorem qvo (k:Nat)(hk:2000000≤k)(fu:List (Nat×Nat))(z1 z2 z3 z4:Bool)(l0:List Cell)(m0 t0 b0:List Int)(r0:Int)(q1:Bool)(p1:List Cell)(q2:Bool)(p2:List Int)(q3:Bool)(p3:List Int)(q4:Bool)(p4:List Int)(x18:Int)(zw:Bool)(w:List Int)(r:Int)(b:List Int)(hl0:l0.length≤128)(hw:w.length=l0.length): ∀ (F N i:Nat)(s:S3),s.1.length - i≤F→F<N→i+F≤4096→StU r s b→
    lp (k+6) spec_l17Adapt [] fu 10 (N) (q01 (i:Int) z1 l0 z2 m0 z3 t0 z4 b0 r0 q1 p1 q2 p2 q3 p3 q4 p4 x18 zw w false s.1 false s.2.1 false s.2.2 false b r)=some [.agg [.int .i64 (r),.arr true (false) (.r3 ((mgS (Pw w l0) F i s).1)),.arr true (false) (.ints .i64 ((mgS (Pw w l0) F i s).2.1)),.arr true (false) (.ints .i64 ((mgS (Pw w l0) F i s).2.2)),.arr true (false) (.ints .i64 (b))]]
  | F,0,i,s,hF,hN,hi,U=>by omega
  | 0,N+1,i,s,hF,hN,hi,U=>by
    rw [qs4]
    have L:=U.len; have ml:=U.ml; have tl:=U.tl
    simp (disch:=omega) only [wk,bit,nI]; rfl
  | F+1,N+1,i,s,hF,hN,hi,U=>by
    rw [qs4]
    have L:=U.len; have ml:=U.ml; have tl:=U.tl
    unfold mgS
    by_cases g:i+1<s.1.length
    · rw [if_pos g]
      have IH0:=qvo k hk fu z1 z2 z3 z4 l0 m0 t0 b0 r0 q1 p1 q2 p2 q3 p3 q4 p4 x18 zw w r b hl0 hw F N (i+1) s (by omega) (by omega) (by omega) U
      have eX:=qf1 (k+5) (by omega) r0 z1 l0 (s.1.getD i zz3) (by omega)
      have eY:=qf1 (k+5) (by omega) r0 z1 l0 (s.1.getD (i+1) zz3) (by omega)
      have eM:=qgs (k+2) (by omega) r false s.1 U.mesh i g
      rcases qts l0 (s.1.getD i zz3) with ⟨ex,_⟩ | ⟨j,hj,ex,_⟩
      · have pX:Pw w l0 (s.1.getD i zz3)=false:=by unfold Pw; rw [ex]; simp
        rw [ex] at eX
        rw [if_neg (by rw [pX]; simp)]
        simp (disch:=omega) only [wk,bit,nI,eX,eY,IH0]
      have pX:Pw w l0 (s.1.getD i zz3)=decide (w.getD j 0= -1):=by unfold Pw; rw [ex]; simp
      rw [ex] at eX
      rcases qts l0 (s.1.getD (i+1) zz3) with ⟨ey,_⟩ | ⟨q,hq,ey,_⟩
      · have pY:Pw w l0 (s.1.getD (i+1) zz3)=false:=by unfold Pw; rw [ey]; simp
        rw [ey] at eY
        rw [if_neg (by rw [pY]; simp)]
        simp (disch:=omega) only [wk,bit,nI,eX,eY,IH0]
      have pY:Pw w l0 (s.1.getD (i+1) zz3)=decide (w.getD q 0= -1):=by unfold Pw; rw [ey]; simp
      rw [ey] at eY
      by_cases h1:w.getD j 0= -1
      · by_cases h2:w.getD q 0= -1
        · rw [dT h1] at pX
          rw [dT h2] at pY
          cases hm:mayC s.1 i
          · rw [if_neg (by rw [pX,pY]; simp)]
            simp (disch:=omega) only [wk,bit,nI,eX,eY,h1,h2,eM,hm,IH0]
          · have hs:=hm
            simp only [mayC,Bool.and_eq_true] at hs
            have sl:=q1k hs.1
            have U' :=cm_U U g hs.1
            have ln:=qv3 g
            have IH1:=qvo k hk fu z1 z2 z3 z4 l0 m0 t0 b0 r0 q1 p1 q2 p2 q3 p3 q4 p4 x18 zw w r b hl0 hw F N (i+1) (cmS s i) (by show (qv2 s.1 i).length - (i+1)≤F; omega) (by omega) (by omega) U'
            have eG:=qgw (k+1) (by omega) r s b U i g sl
            rw [if_pos (by rw [pX,pY]; simp)]
            simp (disch:=omega) only [wk,bit,nI,eX,eY,h1,h2,eM,hm,eG,IH1]
        · rw [dF h2] at pY
          rw [if_neg (by rw [pY]; simp)]
          simp (disch:=omega) only [wk,bit,nI,eX,eY,h1,h2,IH0]
      · rw [dF h1] at pX
        rw [if_neg (by rw [pX]; simp)]
        simp (disch:=omega) only [wk,bit,nI,eX,eY,h1,IH0]
    · rw [if_neg g]; simp (disch:=omega) only [wk,bit,nI]
theorem qvr (k:Nat)(hk:2000000≤k)(fu:List (Nat×Nat))(z1 z2 z3 z4:Bool)(l0:List Cell)(m0 t0 b0:List Int)(r0:Int)(q1:Bool)(p1:List Cell)(q2:Bool)(p2:List Int)(q3:Bool)(p3:List Int)(q4:Bool)(p4:List Int)(x18:Int)(zw:Bool)(w:List Int)(r:Int)(b:List Int)(hl0:l0.length≤128)(hw:w.length=l0.length)(hw1: ∀ j,w.getD j 0=1→qte l0 j<4): ∀ (N n:Nat)(s:S3),n<N→n≤l0.length→n≤s.1.length→(∀ j,j<n→s.1.getD j zz3=l0.getD j zz3)→StU r s b→
    lp (k+6) spec_l17Adapt [] fu 4 (N) (q02 ((n:Int) - 1) z1 l0 z2 m0 z3 t0 z4 b0 r0 q1 p1 q2 p2 q3 p3 q4 p4 x18 zw w false s.1 false s.2.1 false s.2.2 false b r)=some [.agg [.int .i64 (r),.arr true (false) (.r3 ((mgS (Pw w l0) 128 0 (lvS 128 (spS w n s))).1)),.arr true (false) (.ints .i64 ((mgS (Pw w l0) 128 0 (lvS 128 (spS w n s))).2.1)),.arr true (false) (.ints .i64 ((mgS (Pw w l0) 128 0 (lvS 128 (spS w n s))).2.2)),.arr true (false) (.ints .i64 (b))]]
  | 0,n,s,hN,hn,hs,he,U=>by omega
  | N+1,0,s,hN,hn,hs,he,U=>by
    rw [qs5]
    have L:=U.len
    have eL:=qhb k (by omega) r s b U
    have U' :=(qtt 128 s U (by omega)).1
    have L' :=U'.len
    have e:=qvo k hk fu z1 z2 z3 z4 l0 m0 t0 b0 r0 q1 p1 q2 p2 q3 p3 q4 p4 x18 zw w r b hl0 hw 128 (k+6) 0 (lvS 128 s) (by omega) (by omega) (by omega) U'
    rw [show ((0:Nat):Int)=0 from rfl] at e ⊢
    simp (disch:=omega) only [wk,bit,nI,eL,e]
    rfl
  | N+1,n+1,s,hN,hn,hs,he,U=>by
    rw [show ((n+1:Nat):Int) - 1=(n:Int) by omega,qs5]
    have L:=U.len
    unfold spS
    by_cases h1:w.getD n 0=1
    · rw [if_pos h1]
      have hl:qte s.1 n<4:=by have:=hw1 n h1; unfold qte at*; rw [he n (by omega)]; exact this
      have U' :=rf_U U (show n<s.1.length by omega) hl
      have ln:=q1z (show n<s.1.length by omega)
      have IH:=qvr k hk fu z1 z2 z3 z4 l0 m0 t0 b0 r0 q1 p1 q2 p2 q3 p3 q4 p4 x18 zw w r b hl0 hw hw1 N n (rfS s n) (by omega) (by omega) (by show n≤(q1y s.1 n).length; omega) (fun j hj=>by
        show (q1y s.1 n).getD j zz3=_
        rw [q10 (by omega) hj]; exact he j (by omega)) U'
      have eS:=qgx (k+1) (by omega) r s b U n (by omega) hl
      simp (disch:=omega) only [wk,bit,nI,h1,eS,IH]
    · rw [if_neg h1]
      have IH:=qvr k hk fu z1 z2 z3 z4 l0 m0 t0 b0 r0 q1 p1 q2 p2 q3 p3 q4 p4 x18 zw w r b hl0 hw hw1 N n s (by omega) (by omega) (by omega) (fun j hj=>he j (by omega)) U
      simp (disch:=omega) only [wk,bit,nI,IH]
theorem q4e {l:List Cell}{m b:List Int}{hi lo:Int}(j:Nat)(h:(tab l.length (wsh l m b hi lo)).getD j 0=1):qte l j<4:=by
  by_cases hj:j<l.length
  · rw [q2z hj] at h
    unfold wsh at h
    by_cases c:hi<jmp l m b j∧qte l j<4
    · exact c.2
    · rw [if_neg c] at h
      split at h<;>omega
  · rw [qpi (by rw [q20]; omega)] at h; omega
theorem qg5 (k:Nat)(hk:2000000≤k)(r:Int)(l:List Cell)(m t b:List Int)(F:StF r l m t b)(hi lo:Int):
    go (k+7) spec_l17Adapt [.agg [.int .i64 (r),.arr false (false) (.r3 (l)),.arr false (false) (.ints .i64 (m)),.arr false (false) (.ints .i64 (t)),.arr false (false) (.ints .i64 (b))],.int .i64 hi,.int .i64 lo]=some [.agg [.int .i64 (r),.arr true (false) (.r3 ((adS (tab l.length (wsh l m b hi lo)) (l,m,t)).1)),.arr true (false) (.ints .i64 ((adS (tab l.length (wsh l m b hi lo)) (l,m,t)).2.1)),.arr true (false) (.ints .i64 ((adS (tab l.length (wsh l m b hi lo)) (l,m,t)).2.2)),.arr true (false) (.ints .i64 (b))]]:=by
  rw [qoh]
  have L:=F.len; have ml:=F.ml; have tl:=F.tl; have bl:=F.bl; have rr:=F.rr
  have eW:=qgg (k+3) (by omega) hi lo r false false false false l m t b F
  simp (disch:=omega) only [wk,bit,nI,eW,qgu,q20]
  exact qvr k hk [] false false false false l m t b r true [] true [] true [] true [] 0 false _ r b (by omega) (q20 _ _) q4e (k+6) l.length (l,m,t) (by omega) (by omega) (by show l.length≤l.length; omega) (fun j hj=>rfl) F.toU
set_option maxHeartbeats 1000000 in
theorem qui (k:Nat)(hk:2000000≤k)(fu:List (Nat×Nat))(w0:Int)(v1:Bool)(w1:List Cell)(v2:Bool)(w2:List Int)(v3:Bool)(w3:List Int)(v4:Bool)(w4:List Int)(r:Int)(b:List Int)(K:List Cell)(P:Cell→Bool)(hP: ∀ x,hasK K x=P x): ∀ (F N i:Nat)(s:S3),s.1.length - i≤F→F<N→i+F≤4096→StU r s b→
    lp (k+9) impl_State_adapt [.ptr true [.int .i64 w0,.arr true v1 (.r3 w1),.arr true v2 (.ints .i64 w2),.arr true v3 (.ints .i64 w3),.arr true v4 (.ints .i64 w4)]] fu 12 N (qzj (i:Int) false s.1 false s.2.1 false s.2.2 false b r K)=some [.ptr true [.int .i64 (r),.arr true (false) (.r3 ((mgS P F i s).1)),.arr true (false) (.ints .i64 ((mgS P F i s).2.1)),.arr true (false) (.ints .i64 ((mgS P F i s).2.2)),.arr true (false) (.ints .i64 (b))]]
  | F,0,i,s,hF,hN,hi,U=>by omega
  | 0,N+1,i,s,hF,hN,hi,U=>by
    rw [qrm]
    have L:=U.len
    simp (disch:=omega) only [wk,bit,nI]; rfl
  | F+1,N+1,i,s,hF,hN,hi,U=>by
    rw [qrm]
    have L:=U.len; have ml:=U.ml; have tl:=U.tl
    unfold mgS
    by_cases g:i+1<s.1.length
    · rw [if_pos g]
      have IH0:=qui k hk fu w0 v1 w1 v2 w2 v3 w3 v4 w4 r b K P hP F N (i+1) s (by omega) (by omega) (by omega) U
      have eM:=qdv (k+3) (by omega) r false s.1 U.mesh i g
      have hx:=hP (s.1.getD i zz3); have hy:=hP (s.1.getD (i+1) zz3)
      cases p1:P (s.1.getD i zz3)
      · rw [p1] at hx
        rw [if_neg (by simp)]
        simp (disch:=omega) only [wk,bit,nI,hx,IH0]
      rw [p1] at hx
      cases p2:P (s.1.getD (i+1) zz3)
      · rw [p2] at hy
        rw [if_neg (by simp)]
        simp (disch:=omega) only [wk,bit,nI,hx,hy,IH0]
      rw [p2] at hy
      cases hm:mayC s.1 i
      · rw [if_neg (by simp)]
        simp (disch:=omega) only [wk,bit,nI,hx,hy,eM,hm,IH0]
      · have hs:=hm
        simp only [mayC,Bool.and_eq_true] at hs
        have sl:=q1k hs.1
        have U' :=cm_U U g hs.1
        have ln:=qv3 g
        have IH1:=qui k hk fu w0 v1 w1 v2 w2 v3 w3 v4 w4 r b K P hP F N (i+1) (cmS s i) (by show (qv2 s.1 i).length - (i+1)≤F; omega) (by omega) (by omega) U'
        have eG:=qc9 (k+3) (by omega) r s b U i g sl
        rw [if_pos (show (true&&(true&&true))=true from rfl)]
        simp (disch:=omega) only [wk,bit,nI,hx,hy,eM,hm,eG,qxs,qxt,qxu,q3k,q3l,IH1]
    · rw [if_neg g]; simp (disch:=omega) only [wk,bit,nI]
theorem qum (k:Nat)(hk:2000000≤k)(fu:List (Nat×Nat))(w0:Int)(v1:Bool)(w1:List Cell)(v2:Bool)(w2:List Int)(v3:Bool)(w3:List Int)(v4:Bool)(w4:List Int)(r:Int)(b:List Int)(l0:List Cell)(zw:Bool)(w:List Int)(P:Cell→Bool)(hl0:l0.length≤128)(hw:w.length=l0.length)(hw1: ∀ j,w.getD j 0=1→qte l0 j<4): ∀ (N n:Nat)(s:S3)(acc:List Cell),n<N→n≤l0.length→n≤s.1.length→(∀ j,j<n→s.1.getD j zz3=l0.getD j zz3)→StU r s b→(∀ x,hasK (ks w l0 n acc) x=P x)→
    lp (k+9) impl_State_adapt [.ptr true [.int .i64 w0,.arr true v1 (.r3 w1),.arr true v2 (.ints .i64 w2),.arr true v3 (.ints .i64 w3),.arr true v4 (.ints .i64 w4)]] fu 3 N (qzk ((n:Int) - 1) false s.1 false s.2.1 false s.2.2 false b r zw w acc)=some [.ptr true [.int .i64 (r),.arr true (false) (.r3 ((mgS P 128 0 (lvS 128 (spS w n s))).1)),.arr true (false) (.ints .i64 ((mgS P 128 0 (lvS 128 (spS w n s))).2.1)),.arr true (false) (.ints .i64 ((mgS P 128 0 (lvS 128 (spS w n s))).2.2)),.arr true (false) (.ints .i64 (b))]]
  | 0,n,s,acc,hN,hn,hs,he,U,hK=>by omega
  | N+1,0,s,acc,hN,hn,hs,he,U,hK=>by
    rw [qrn]
    have L:=U.len
    have eL:=qc7 (k+5) (by omega) r s b U
    have U' :=(qtt 128 s U (by omega)).1
    have L' :=U'.len
    have e:=qui k hk fu w0 v1 w1 v2 w2 v3 w3 v4 w4 r b acc P hK 128 (k+9) 0 (lvS 128 s) (by omega) (by omega) (by omega) U'
    rw [show ((0:Nat):Int)=0 from rfl] at e ⊢
    simp (disch:=omega) only [wk,bit,nI,eL,qxs,qxt,qxu,q3k,q3l,e]
    rfl
  | N+1,n+1,s,acc,hN,hn,hs,he,U,hK=>by
    rw [show ((n+1:Nat):Int) - 1=(n:Int) by omega,qrn]
    have L:=U.len
    unfold spS
    unfold ks at hK
    by_cases h1:w.getD n 0=1
    · rw [if_pos h1]
      rw [if_pos h1] at hK
      have hl:qte s.1 n<4:=by have:=hw1 n h1; unfold qte at*; rw [he n (by omega)]; exact this
      have U' :=rf_U U (show n<s.1.length by omega) hl
      have ln:=q1z (show n<s.1.length by omega)
      have IH:=qum k hk fu w0 v1 w1 v2 w2 v3 w3 v4 w4 r b l0 zw w P hl0 hw hw1 N n (rfS s n) acc (by omega) (by omega) (by show n≤(q1y s.1 n).length; omega) (fun j hj=>by
        show (q1y s.1 n).getD j zz3=_
        rw [q10 (by omega) hj]; exact he j (by omega)) U' hK
      have eS:=qd2 (k+6) (by omega) r s b U n (by omega) hl
      simp (disch:=omega) only [wk,bit,nI,h1,eS,qxs,qxt,qxu,q3k,q3l,IH]
    · rw [if_neg h1]
      rw [if_neg h1] at hK
      by_cases h2:w.getD n 0= -1
      · rw [if_pos h2] at hK
        have IH:=qum k hk fu w0 v1 w1 v2 w2 v3 w3 v4 w4 r b l0 zw w P hl0 hw hw1 N n s _ (by omega) (by omega) (by omega) (fun j hj=>he j (by omega)) U hK
        have hen:=he n (by omega)
        simp (disch:=omega) only [wk,bit,nI,h2,hen,IH]
      · rw [if_neg h2] at hK
        have IH:=qum k hk fu w0 v1 w1 v2 w2 v3 w3 v4 w4 r b l0 zw w P hl0 hw hw1 N n s acc (by omega) (by omega) (by omega) (fun j hj=>he j (by omega)) U hK
        simp (disch:=omega) only [wk,bit,nI,IH]
theorem qc6 (k:Nat)(hk:2000000≤k)(r:Int)(l:List Cell)(m t b:List Int)(F:StF r l m t b)(hi lo:Int):
    go (k+10) impl_State_adapt [.ptr true [.int .i64 (r),.arr true (false) (.r3 (l)),.arr true (false) (.ints .i64 (m)),.arr true (false) (.ints .i64 (t)),.arr true (false) (.ints .i64 (b))],.int .i64 hi,.int .i64 lo]=some [.ptr true [.int .i64 (r),.arr true (false) (.r3 ((adS (tab l.length (wsh l m b hi lo)) (l,m,t)).1)),.arr true (false) (.ints .i64 ((adS (tab l.length (wsh l m b hi lo)) (l,m,t)).2.1)),.arr true (false) (.ints .i64 ((adS (tab l.length (wsh l m b hi lo)) (l,m,t)).2.2)),.arr true (false) (.ints .i64 (b))]]:=by
  rw [qkf]
  have L:=F.len; have ml:=F.ml; have tl:=F.tl; have bl:=F.bl; have rr:=F.rr
  have eW:=qc0 k (by omega) hi lo r false false false false l m t b F
  simp (disch:=omega) only [wk,bit,nI,eW,q20]
  have hP:=qpr (w:=tab l.length (wsh l m b hi lo)) (qv8.1 F.mesh).1
  exact qum k hk [] _ _ _ _ _ _ _ _ _ r b l false _ _ (by omega) (q20 _ _) q4e (k+9) l.length (l,m,t) [] (by omega) (by omega) (by show l.length≤l.length; omega) (fun j hj=>rfl) F.toU hP
theorem ad_U {r:Int}{l:List Cell}{m t b:List Int}(F:StF r l m t b)(hi lo:Int):StF r (adS (tab l.length (wsh l m b hi lo)) (l,m,t)).1 (adS (tab l.length (wsh l m b hi lo)) (l,m,t)).2.1 (adS (tab l.length (wsh l m b hi lo)) (l,m,t)).2.2 b:=by
  have U:=q1p (tab l.length (wsh l m b hi lo)) l q4e l.length (l,m,t) F.toU (Nat.le_refl _) (fun j hj=>rfl)
  have V:=qtt 128 _ U (by have:=U.len; omega)
  exact (qwe _ 128 0 _ V.1).toF (qwg _ 128 0 _ V.2)
end Go.Proofs.YtjfjniebmdafeaaGreatDoor
end
section
namespace Go.Proofs.YtjfjniebmdafeaaGreatDoor
open Go.Ev
abbrev S2:=List Int×List Int
structure Ld where
  mi:Int
  mo:Int
  ti:Int
  ou:Int
structure Pl where
  bi:Int
  bs:Int
  bo:Int
  rain:Int
  loss:Int
  dec:Int
  high:Int
  low:Int
  every:Int
def Ld.add (a b:Ld):Ld:=⟨a.mi+b.mi,a.mo+b.mo,a.ti+b.ti,a.ou+b.ou⟩
structure Led (s s' :S2) (l:Ld):Prop where
  m:isum s'.1=isum s.1+l.mi - l.mo
  t:isum s'.2=isum s.2+l.ti - l.ou
  mi:0≤l.mi∧l.mi≤10000000
  mo:0≤l.mo∧l.mo≤10000000
  ti:0≤l.ti∧l.ti≤10000000000
  ou:0≤l.ou∧l.ou≤10000000000
theorem qqj: ∀ (l:List Int)(i:Nat)(x:Int),i<l.length→isum (l.set i x)=isum l - l.getD i 0+x
  | [],i,x,h=>by simp at h
  | y::l,0,x,h=>by simp only [List.set_cons_zero,isum,List.getD_cons_zero]; omega
  | y::l,i+1,x,h=>by
    have:=qqj l i x (by simpa using h)
    simp only [List.set_cons_succ,isum,List.getD_cons_succ,this]; omega
theorem q2p (f g:Nat→Int): ∀ n,q2o (fun j=>f j+g j) n=q2o f n+q2o g n
  | 0=>rfl
  | n+1=>by have:=q2p f g n; simp only [q2o]; omega
theorem q2t (f g:Nat→Int): ∀ n,q2o (fun j=>f j - g j) n=q2o f n - q2o g n
  | 0=>rfl
  | n+1=>by have:=q2t f g n; simp only [q2o]; omega
theorem q2s {f:Nat→Int} : ∀ n,(∀ j,j<n→0≤f j)→0≤q2o f n
  | 0,h=>Int.le_refl _
  | n+1,h=>by have:=q2s n fun j hj=>h j (by omega); have:=h n (by omega); simp only [q2o]; omega
theorem q2q {f g:Nat→Int} : ∀ n,(∀ j,j<n→f j≤g j)→q2o f n≤q2o g n
  | 0,h=>Int.le_refl _
  | n+1,h=>by have:=q2q n fun j hj=>h j (by omega); have:=h n (by omega); simp only [q2o]; omega
theorem StF.tle {r:Int}{l:List Cell}{m t b:List Int}(F:StF r l m t b):0≤isum t∧isum t≤10000000000:=by
  have e:isum t≤1000*isum m:=by
    rw [qqk t,qqk m,F.tl,F.ml]
    have: ∀ n,q2o (fun j=>t.getD j 0) n≤1000*q2o (fun j=>m.getD j 0) n:=by
      intro n
      induction n with
      | zero=>simp [q2o]
      | succ n ih=>have:=F.at n; simp only [q2o]; omega
    exact this _
  have:=F.tsum; have:=F.msum
  omega
theorem StF.mk' {r:Int}{l:List Cell}{m t b m' t' :List Int}(F:StF r l m t b)(hm:m'.length=l.length)(ht:t'.length=l.length)(h: ∀ i,i<l.length→0≤m'.getD i 0∧0≤t'.getD i 0∧t'.getD i 0≤1000*m'.getD i 0)(hs:isum m' ≤10000000):StF r l m' t' b:=by
  refine ⟨F.mesh,F.bal,hm,ht,F.bl,?_,F.bed,hs⟩
  refine qv0 _ _ (by omega) fun i hi=> ?_
  have a:=h i (by omega)
  have nn: ∀ x∈m',0≤x:=by
    intro x hx
    obtain ⟨j,hj,rfl⟩:=List.getElem_of_mem hx
    have:=(h j (by omega)).1
    rwa [List.getD_eq_getElem?_getD,List.getElem?_eq_getElem hj,Option.getD_some] at this
  have:=qon m' nn _ (qpj hi 0)
  exact ⟨⟨a.1,by omega⟩,a.2⟩
def boX (o:Int)(m:List Int):Int:=m.getD (m.length - 1) 0*o / 1000
def boY (o:Int)(m t:List Int):Int:=q1c (t.getD (m.length - 1) 0) (boX o m) (m.getD (m.length - 1) 0)
def bo1 (o:Int)(s:S2):S2:=(s.1.set (s.1.length - 1) (s.1.getD (s.1.length - 1) 0 - boX o s.1),s.2.set (s.1.length - 1) (s.2.getD (s.1.length - 1) 0 - boY o s.1 s.2))
def bo2 (a c:Int)(s:S2):S2:=(s.1.set 0 (s.1.getD 0 0+a),s.2.set 0 (s.2.getD 0 0+a*c))
def boS (a c o:Int)(s:S2):S2×Ld:=if isum (bo1 o s).1+a≤10000000 then (bo2 a c (bo1 o s),⟨a,boX o s.1,a*c,boY o s.1 s.2⟩) else (bo1 o s,⟨0,boX o s.1,0,boY o s.1 s.2⟩)
section
variable {r:Int} {l:List Cell} {m t b:List Int}
theorem qxf {x y p:Int}(hx:0≤x∧x≤10000000)(hy:0≤y∧y≤1000*x)(hp:0≤p∧p≤x):(0≤q1c y p x∧q1c y p x≤y)∧y - q1c y p x≤1000*(x - p):=by
  by_cases h:1≤x
  · have:=q1h h hp.1 hp.2 hy.1 hy.2
    rw [q1d h hx.2 hp.1 hp.2 hy.1 hy.2]
    omega
  · have e:q1c y p x=0:=by
      unfold q1c
      have:inR x 1 10000000=false:=by rw [← Bool.not_eq_true,qp3]; omega
      rw [this]; rfl
    rw [e]; omega
theorem qbm (F:StF r l m t b){o:Int}(ho:0≤o∧o≤250):0≤boX o m∧boX o m≤m.getD (m.length - 1) 0:=by
  have a:=F.at (m.length - 1)
  unfold boX
  have h1:0≤m.getD (m.length - 1) 0*o:=Int.mul_nonneg a.1 ho.1
  have h2:m.getD (m.length - 1) 0*o≤m.getD (m.length - 1) 0*250:=Int.mul_le_mul_of_nonneg_left ho.2 a.1
  omega
theorem qbn (F:StF r l m t b){o:Int}(ho:0≤o∧o≤250):(0≤boY o m t∧boY o m t≤t.getD (m.length - 1) 0)∧t.getD (m.length - 1) 0 - boY o m t≤1000*(m.getD (m.length - 1) 0 - boX o m):=by
  have a:=F.at (m.length - 1)
  exact qxf ⟨a.1,a.2.1⟩ a.2.2 (qbm F ho)
theorem q05 {x:List Int}{i j:Nat}{v:Int}(h:i<x.length):(x.set i v).getD j 0=if i=j then v else x.getD j 0:=by
  rw [q06]
  by_cases e:i=j
  · rw [if_pos ⟨e,h⟩,if_pos e]
  · rw [if_neg (fun c=>e c.1),if_neg e]
theorem qbk (F:StF r l m t b){o:Int}(ho:0≤o∧o≤250):StF r l (bo1 o (m,t)).1 (bo1 o (m,t)).2 b∧isum (bo1 o (m,t)).1=isum m - boX o m∧isum (bo1 o (m,t)).2=isum t - boY o m t:=by
  have L:=F.len; have ml:=F.ml; have tl:=F.tl
  have x:=qbm F ho; have y:=qbn F ho
  have e1:isum (bo1 o (m,t)).1=isum m - boX o m:=by
    show isum (m.set (m.length - 1) (m.getD (m.length - 1) 0 - boX o m))=_
    rw [qqj _ _ _ (by omega)]; omega
  have e2:isum (bo1 o (m,t)).2=isum t - boY o m t:=by
    show isum (t.set (m.length - 1) (t.getD (m.length - 1) 0 - boY o m t))=_
    rw [qqj _ _ _ (by omega)]; omega
  refine ⟨F.mk' (by show (m.set _ _).length=_; rw [List.length_set]; exact ml) (by show (t.set _ _).length=_; rw [List.length_set]; exact tl) (fun i hi=> ?_) (by rw [e1]; have:=F.msum; omega),e1,e2⟩
  have a:=F.at i
  show 0≤(m.set (m.length - 1) (m.getD (m.length - 1) 0 - boX o m)).getD i 0∧0≤(t.set (m.length - 1) (t.getD (m.length - 1) 0 - boY o m t)).getD i 0∧(t.set (m.length - 1) (t.getD (m.length - 1) 0 - boY o m t)).getD i 0≤1000*(m.set (m.length - 1) (m.getD (m.length - 1) 0 - boX o m)).getD i 0
  rw [q05 (by omega),q05 (by omega)]
  by_cases g:m.length - 1=i
  · rw [if_pos g,if_pos g]; omega
  · rw [if_neg g,if_neg g]; omega
theorem qp4 {a c:Int}(ha:0≤a∧a≤10000)(hc:0≤c∧c≤1000):0≤a*c∧a*c≤1000*a:=by
  have h1:=Int.mul_nonneg ha.1 hc.1
  have h2:a*c≤a*1000:=Int.mul_le_mul_of_nonneg_left hc.2 ha.1
  omega
theorem qbl (F:StF r l m t b){a c o:Int}(ha:0≤a∧a≤10000)(hc:0≤c∧c≤1000)(ho:0≤o∧o≤250):StF r l (boS a c o (m,t)).1.1 (boS a c o (m,t)).1.2 b∧Led (m,t) (boS a c o (m,t)).1 (boS a c o (m,t)).2:=by
  obtain ⟨G,e1,e2⟩:=qbk F ho
  have L:=F.len; have ml:=F.ml; have tl:=F.tl
  have x:=qbm F ho; have y:=(qbn F ho).1; have p:=qp4 ha hc
  have fa:=F.at (m.length - 1)
  unfold boS
  by_cases g:isum (bo1 o (m,t)).1+a≤10000000
  · rw [if_pos g]
    have gl:=G.ml; have gt:=G.tl
    have s1:isum (bo2 a c (bo1 o (m,t))).1=isum (bo1 o (m,t)).1+a:=by
      show isum ((bo1 o (m,t)).1.set 0 ((bo1 o (m,t)).1.getD 0 0+a))=_
      rw [qqj _ _ _ (by omega)]; omega
    have s2:isum (bo2 a c (bo1 o (m,t))).2=isum (bo1 o (m,t)).2+a*c:=by
      show isum ((bo1 o (m,t)).2.set 0 ((bo1 o (m,t)).2.getD 0 0+a*c))=_
      rw [qqj _ _ _ (by omega)]; omega
    refine ⟨G.mk' (by show (List.set _ _ _).length=_; rw [List.length_set]; exact gl) (by show (List.set _ _ _).length=_; rw [List.length_set]; exact gt) (fun i hi=> ?_) (by show isum (bo2 a c (bo1 o (m,t))).1≤_; rw [s1]; exact g),⟨?_,?_,⟨ha.1,by show a≤_; omega⟩,⟨x.1,by show boX o m≤_; omega⟩,⟨p.1,by show a*c≤_; omega⟩,⟨y.1,by show boY o m t≤_; omega⟩⟩⟩
    · have q:=G.at i
      show 0≤((bo1 o (m,t)).1.set 0 ((bo1 o (m,t)).1.getD 0 0+a)).getD i 0∧0≤((bo1 o (m,t)).2.set 0 ((bo1 o (m,t)).2.getD 0 0+a*c)).getD i 0∧((bo1 o (m,t)).2.set 0 ((bo1 o (m,t)).2.getD 0 0+a*c)).getD i 0≤1000*((bo1 o (m,t)).1.set 0 ((bo1 o (m,t)).1.getD 0 0+a)).getD i 0
      rw [q05 (by omega),q05 (by omega)]
      by_cases h:0=i
      · subst h; rw [if_pos rfl,if_pos rfl]; omega
      · rw [if_neg h,if_neg h]; omega
    · show isum (bo2 a c (bo1 o (m,t))).1=isum m+a - boX o m; omega
    · show isum (bo2 a c (bo1 o (m,t))).2=isum t+a*c - boY o m t; omega
  · rw [if_neg g]
    refine ⟨G,⟨?_,?_,⟨Int.le_refl _,by show (0:Int)≤_; omega⟩,⟨x.1,by show boX o m≤_; omega⟩,⟨Int.le_refl _,by show (0:Int)≤_; omega⟩,⟨y.1,by show boY o m t≤_; omega⟩⟩⟩
    · show isum (bo1 o (m,t)).1=isum m+0 - boX o m; omega
    · show isum (bo1 o (m,t)).2=isum t+0 - boY o m t; omega
end
def part (a:Int)(l:List Cell)(j:Nat):Int:=a*q33 (qte l j) / 16
theorem qxj {a:Int}(ha:0≤a∧a≤10000)(l:List Cell)(j:Nat):0≤part a l j∧part a l j≤a:=by
  have w:=q35 (qte l j)
  unfold part
  have h1:=Int.mul_nonneg ha.1 w.1
  have h2:a*q33 (qte l j)≤a*16:=Int.mul_le_mul_of_nonneg_left w.2 ha.1
  omega
def raS (a:Int)(l:List Cell)(s:S2):S2×Ld:=if isum s.1+q2o (part a l) l.length≤10000000 then ((tab l.length (fun j=>s.1.getD j 0+part a l j),s.2),⟨q2o (part a l) l.length,0,0,0⟩) else (s,⟨0,0,0,0⟩)
def soX (a:Int)(l:List Cell)(m:List Int)(j:Nat):Int:=min (m.getD j 0) (part a l j)
def soY (a:Int)(l:List Cell)(m t:List Int)(j:Nat):Int:=q1c (t.getD j 0) (soX a l m j) (m.getD j 0)
def soS (a:Int)(l:List Cell)(s:S2):S2×Ld:=((tab l.length (fun j=>s.1.getD j 0 - soX a l s.1 j),tab l.length (fun j=>s.2.getD j 0 - soY a l s.1 s.2 j)),⟨0,q2o (soX a l s.1) l.length,0,q2o (soY a l s.1 s.2) l.length⟩)
def deX (a:Int)(t:List Int)(j:Nat):Int:=t.getD j 0*a / 1000
def deS (a:Int)(l:List Cell)(s:S2):S2×Ld:=((s.1,tab l.length (fun j=>s.2.getD j 0 - deX a s.2 j)),⟨0,0,0,q2o (deX a s.2) l.length⟩)
section
variable {r:Int} {l:List Cell} {m t b:List Int}
theorem qxk {a:Int}(ha:0≤a∧a≤10000)(l:List Cell): ∀ n:Nat,0≤q2o (part a l) n∧q2o (part a l) n≤10000*n
  | 0=>by simp [q2o]
  | n+1=>by have:=qxk ha l n; have:=qxj ha l n; simp only [q2o]; omega
theorem qxy (F:StF r l m t b){a:Int}(ha:0≤a∧a≤10000):StF r l (raS a l (m,t)).1.1 (raS a l (m,t)).1.2 b∧Led (m,t) (raS a l (m,t)).1 (raS a l (m,t)).2:=by
  have L:=F.len; have ml:=F.ml; have tl:=F.tl
  have p:=qxk ha l l.length
  unfold raS
  by_cases g:isum m+q2o (part a l) l.length≤10000000
  · rw [if_pos g]
    have e1:isum (tab l.length (fun j=>m.getD j 0+part a l j))=isum m+q2o (part a l) l.length:=by
      rw [qql,q2p,qqk m,ml]
    refine ⟨F.mk' (q20 _ _) tl (fun i hi=> ?_) (by show isum (tab l.length (fun j=>m.getD j 0+part a l j))≤10000000; omega),⟨?_,?_,⟨p.1,by show q2o _ _≤_; have:=F.msum; omega⟩,⟨Int.le_refl _,by show (0:Int)≤_; omega⟩,⟨Int.le_refl _,by show (0:Int)≤_; omega⟩,⟨Int.le_refl _,by show (0:Int)≤_; omega⟩⟩⟩
    · have a1:=F.at i; have a2:=qxj ha l i
      show 0≤(tab l.length (fun j=>m.getD j 0+part a l j)).getD i 0∧0≤t.getD i 0∧t.getD i 0≤1000*(tab l.length (fun j=>m.getD j 0+part a l j)).getD i 0
      rw [q2z hi]; omega
    · show isum (tab l.length (fun j=>m.getD j 0+part a l j))=isum m+q2o (part a l) l.length - 0; omega
    · show isum t=isum t+0 - 0; omega
  · rw [if_neg g]
    refine ⟨F,⟨?_,?_,⟨Int.le_refl _,by show (0:Int)≤_; omega⟩,⟨Int.le_refl _,by show (0:Int)≤_; omega⟩,⟨Int.le_refl _,by show (0:Int)≤_; omega⟩,⟨Int.le_refl _,by show (0:Int)≤_; omega⟩⟩⟩
    · show isum m=isum m+0 - 0; omega
    · show isum t=isum t+0 - 0; omega
theorem q1m (F:StF r l m t b){a:Int}(ha:0≤a∧a≤10000)(j:Nat):0≤soX a l m j∧soX a l m j≤m.getD j 0:=by
  have a1:=F.at j; have a2:=qxj ha l j
  unfold soX; omega
theorem q1n (F:StF r l m t b){a:Int}(ha:0≤a∧a≤10000)(j:Nat):(0≤soY a l m t j∧soY a l m t j≤t.getD j 0)∧t.getD j 0 - soY a l m t j≤1000*(m.getD j 0 - soX a l m j):=by
  have a1:=F.at j
  exact qxf ⟨a1.1,a1.2.1⟩ a1.2.2 (q1m F ha j)
theorem q1o (F:StF r l m t b){a:Int}(ha:0≤a∧a≤10000)(n:Nat):(0≤q2o (soX a l m) n∧q2o (soX a l m) n≤q2o (fun j=>m.getD j 0) n)∧0≤q2o (soY a l m t) n∧q2o (soY a l m t) n≤q2o (fun j=>t.getD j 0) n:=
  ⟨⟨q2s n fun j _=>(q1m F ha j).1,q2q n fun j _=>(q1m F ha j).2⟩,q2s n fun j _=>(q1n F ha j).1.1,q2q n fun j _=>(q1n F ha j).1.2⟩
theorem q1l (F:StF r l m t b){a:Int}(ha:0≤a∧a≤10000):StF r l (soS a l (m,t)).1.1 (soS a l (m,t)).1.2 b∧Led (m,t) (soS a l (m,t)).1 (soS a l (m,t)).2:=by
  have L:=F.len; have ml:=F.ml; have tl:=F.tl
  have p:=q1o F ha l.length
  have ms:=F.msum; have ts:=F.tle
  have e1:isum (tab l.length (fun j=>m.getD j 0 - soX a l m j))=isum m - q2o (soX a l m) l.length:=by rw [qql,q2t,qqk m,ml]
  have e2:isum (tab l.length (fun j=>t.getD j 0 - soY a l m t j))=isum t - q2o (soY a l m t) l.length:=by rw [qql,q2t,qqk t,tl]
  have q1:=qqk m; have q2:=qqk t
  rw [ml] at q1; rw [tl] at q2
  refine ⟨F.mk' (q20 _ _) (q20 _ _) (fun i hi=> ?_) (by show isum (tab l.length (fun j=>m.getD j 0 - soX a l m j))≤10000000; omega),⟨?_,?_,⟨Int.le_refl _,by show (0:Int)≤_; omega⟩,⟨p.1.1,by show q2o (soX a l m) _≤_; omega⟩,⟨Int.le_refl _,by show (0:Int)≤_; omega⟩,⟨p.2.1,by show q2o (soY a l m t) _≤_; omega⟩⟩⟩
  · have a1:=F.at i; have a2:=q1m F ha i; have a3:=q1n F ha i
    show 0≤(tab l.length (fun j=>m.getD j 0 - soX a l m j)).getD i 0∧0≤(tab l.length (fun j=>t.getD j 0 - soY a l m t j)).getD i 0∧(tab l.length (fun j=>t.getD j 0 - soY a l m t j)).getD i 0≤1000*(tab l.length (fun j=>m.getD j 0 - soX a l m j)).getD i 0
    rw [q2z hi,q2z hi]; omega
  · show isum (tab l.length (fun j=>m.getD j 0 - soX a l m j))=isum m+0 - q2o (soX a l m) l.length; omega
  · show isum (tab l.length (fun j=>t.getD j 0 - soY a l m t j))=isum t+0 - q2o (soY a l m t) l.length; omega
theorem qip (F:StF r l m t b){a:Int}(ha:0≤a∧a≤1000)(j:Nat):0≤deX a t j∧deX a t j≤t.getD j 0:=by
  have a1:=F.at j
  unfold deX
  have h1:=Int.mul_nonneg a1.2.2.1 ha.1
  have h2:t.getD j 0*a≤t.getD j 0*1000:=Int.mul_le_mul_of_nonneg_left ha.2 a1.2.2.1
  omega
theorem qio (F:StF r l m t b){a:Int}(ha:0≤a∧a≤1000):StF r l (deS a l (m,t)).1.1 (deS a l (m,t)).1.2 b∧Led (m,t) (deS a l (m,t)).1 (deS a l (m,t)).2:=by
  have L:=F.len; have ml:=F.ml; have tl:=F.tl
  have p1:=q2s l.length fun j _=>(qip F ha j).1
  have p2:=q2q l.length fun j _=>(qip F ha j).2
  have ts:=F.tle
  have e2:isum (tab l.length (fun j=>t.getD j 0 - deX a t j))=isum t - q2o (deX a t) l.length:=by rw [qql,q2t,qqk t,tl]
  have q2:=qqk t
  rw [tl] at q2
  refine ⟨F.mk' ml (q20 _ _) (fun i hi=> ?_) F.sum,⟨?_,?_,⟨Int.le_refl _,by show (0:Int)≤_; omega⟩,⟨Int.le_refl _,by show (0:Int)≤_; omega⟩,⟨Int.le_refl _,by show (0:Int)≤_; omega⟩,⟨p1,by show q2o (deX a t) _≤_; omega⟩⟩⟩
  · have a1:=F.at i; have a2:=qip F ha i
    show 0≤m.getD i 0∧0≤(tab l.length (fun j=>t.getD j 0 - deX a t j)).getD i 0∧(tab l.length (fun j=>t.getD j 0 - deX a t j)).getD i 0≤1000*m.getD i 0
    rw [q2z hi]; omega
  · show isum m=isum m+0 - 0; omega
  · show isum (tab l.length (fun j=>t.getD j 0 - deX a t j))=isum t+0 - q2o (deX a t) l.length; omega
end
def tick (l:List Cell)(b:List Int)(i:Nat)(s:S2):S2:=(tab l.length (stM (i:Int) l s.1 b),tab l.length (stT (i:Int) l s.1 s.2 b))
def q3b (l:List Cell)(b:List Int):Nat→Nat→S2→S2
  | 0,i,s=>s
  | n+1,i,s=>q3b l b n (i+1) (tick l b i s)
theorem q3c {r:Int}{l:List Cell}{b:List Int} : ∀ (n i:Nat)(s:S2),StF r l s.1 s.2 b→StF r l (q3b l b n i s).1 (q3b l b n i s).2 b∧isum (q3b l b n i s).1=isum s.1∧isum (q3b l b n i s).2=isum s.2
  | 0,i,s,F=>⟨F,rfl,rfl⟩
  | n+1,i,s,F=>by
    have h:=q3c n (i+1) (tick l b i s) (q2c F i)
    exact ⟨h.1,h.2.1.trans (q2f F i),h.2.2.trans (q2g F i)⟩
end Go.Proofs.YtjfjniebmdafeaaGreatDoor
end
section
namespace Go.Proofs.YtjfjniebmdafeaaGreatDoor
open Go.Ev
structure StV (r:Int) (s:S3) (b:List Int) (M T:Int):Prop where
  u:StU r s b
  m:isum s.2.1=M
  t:isum s.2.2=T
theorem rf_V {r:Int}{s:S3}{b:List Int}{M T:Int}(V:StV r s b M T){i:Nat}(hi:i<s.1.length)(hl:qte s.1 i<4):StV r (rfS s i) b M T:=by
  have ml:=V.u.ml; have tl:=V.u.tl
  exact ⟨rf_U V.u hi hl,by show isum (rfM s.2.1 i)=M; rw [qyj (by omega) (V.u.at i).1]; exact V.m,by show isum (rfT s.2.2 s.2.1 i)=T; rw [qyl (by omega)]; exact V.t⟩
theorem cm_V {r:Int}{s:S3}{b:List Int}{M T:Int}(V:StV r s b M T){i:Nat}(hi:i+1<s.1.length)(hs:sib (s.1.getD i zz3) (s.1.getD (i+1) zz3)=true):StV r (cmS s i) b M T:=by
  have ml:=V.u.ml; have tl:=V.u.tl
  exact ⟨cm_U V.u hi hs,by show isum (cmM s.2.1 i)=M; rw [qid (by omega)]; exact V.m,by show isum (cmM s.2.2 i)=T; rw [qid (by omega)]; exact V.t⟩
theorem qtu {r:Int}{b:List Int}{M T:Int} : ∀ (n:Nat)(s:S3),StV r s b M T→129≤n+s.1.length→StV r (lvS n s) b M T
  | 0,s,V,hn=>V
  | n+1,s,V,hn=>by
    unfold lvS
    by_cases g:unb s.1<0
    · rw [if_pos g]; exact V
    · rw [if_neg g]
      obtain ⟨j,e,h1,h2⟩:=q3o (by omega:0≤unb s.1)
      have c:=qig V.u.mesh h1 h2
      rw [e,Int.toNat_natCast]
      exact qtu n _ (rf_V V c.1 c.2) (by show 129≤n+(q1y s.1 _).length; rw [q1z c.1]; omega)
theorem q1q {r:Int}{b:List Int}{M T:Int}(w:List Int)(l0:List Cell)(hw: ∀ j,w.getD j 0=1→qte l0 j<4): ∀ (n:Nat)(s:S3),StV r s b M T→n≤s.1.length→(∀ j,j<n→s.1.getD j zz3=l0.getD j zz3)→StV r (spS w n s) b M T
  | 0,s,V,hn,he=>V
  | n+1,s,V,hn,he=>by
    unfold spS
    by_cases g:w.getD n 0=1
    · rw [if_pos g]
      have hl:qte s.1 n<4:=by have:=hw n g; unfold qte at*; rw [he n (by omega)]; exact this
      exact q1q w l0 hw n _ (rf_V V (by omega) hl) (by show n≤(q1y s.1 n).length; rw [q1z (by omega)]; omega) fun j hj=>by
        show (q1y s.1 n).getD j zz3=_
        rw [q10 (by omega) hj]; exact he j (by omega)
    · rw [if_neg g]
      exact q1q w l0 hw n s V (by omega) fun j hj=>he j (by omega)
theorem qwf {r:Int}{b:List Int}{M T:Int}(P:Cell→Bool): ∀ (n i:Nat)(s:S3),StV r s b M T→StV r (mgS P n i s) b M T
  | 0,i,s,V=>V
  | n+1,i,s,V=>by
    unfold mgS
    by_cases g:i+1<s.1.length
    · rw [if_pos g]
      by_cases h:(P (s.1.getD i zz3)&&(P (s.1.getD (i+1) zz3)&&mayC s.1 i))=true
      · rw [if_pos h]
        simp only [Bool.and_eq_true,mayC] at h
        exact qwf P n (i+1) _ (cm_V V g h.2.2.1)
      · rw [if_neg h]; exact qwf P n (i+1) s V
    · rw [if_neg g]; exact V
def ada (hi lo:Int)(b:List Int)(s:S3):S3:=adS (tab s.1.length (wsh s.1 s.2.1 b hi lo)) s
theorem qa1 {r:Int}{s:S3}{b:List Int}(F:StF r s.1 s.2.1 s.2.2 b)(hi lo:Int):StF r (ada hi lo b s).1 (ada hi lo b s).2.1 (ada hi lo b s).2.2 b∧isum (ada hi lo b s).2.1=isum s.2.1∧isum (ada hi lo b s).2.2=isum s.2.2:=by
  have V:=q1q (M:=isum s.2.1) (T:=isum s.2.2) (tab s.1.length (wsh s.1 s.2.1 b hi lo)) s.1 q4e s.1.length s ⟨F.toU,rfl,rfl⟩ (Nat.le_refl _) (fun j hj=>rfl)
  have W:=qtu 128 _ V (by have:=V.u.len; omega)
  have X:=qwf (Pw (tab s.1.length (wsh s.1 s.2.1 b hi lo)) s.1) 128 0 _ W
  exact ⟨ad_U F hi lo,X.m,X.t⟩
def flow (p:Pl)(l:List Cell)(b:List Int)(s:S2):S2×Ld:=
  let s1:=boS p.bi p.bs p.bo s
  let s2:=raS p.rain l s1.1
  let s3:=soS p.loss l s2.1
  let s4:=deS p.dec l s3.1
  (q3b l b 16 0 s4.1,((s1.2.add s2.2).add s3.2).add s4.2)
def mac (p:Pl)(b:List Int)(k:Int)(s:S3):S3×Ld:=
  let x:=flow p s.1 b s.2
  (if 0<p.every∧(k+1) % p.every=0 then ada p.high p.low b (s.1,x.1) else (s.1,x.1),x.2)
structure PlF (p:Pl):Prop where
  bi:0≤p.bi∧p.bi≤10000
  bs:0≤p.bs∧p.bs≤1000
  bo:0≤p.bo∧p.bo≤250
  rain:0≤p.rain∧p.rain≤10000
  loss:0≤p.loss∧p.loss≤10000
  dec:0≤p.dec∧p.dec≤1000
  high:0≤p.high∧p.high≤1000000
  low:0≤p.low∧p.low≤1000000
  every:0≤p.every∧p.every≤100
structure Led4 (s s' :S2) (l:Ld):Prop where
  m:isum s'.1=isum s.1+l.mi - l.mo
  t:isum s'.2=isum s.2+l.ti - l.ou
  mi:0≤l.mi∧l.mi≤40000000
  mo:0≤l.mo∧l.mo≤40000000
  ti:0≤l.ti∧l.ti≤40000000000
  ou:0≤l.ou∧l.ou≤40000000000
theorem Led4.comb {s s1 s2 s3 s4 s5:S2}{l1 l2 l3 l4:Ld}(h1:Led s s1 l1)(h2:Led s1 s2 l2)(h3:Led s2 s3 l3)(h4:Led s3 s4 l4)(e1:isum s5.1=isum s4.1)(e2:isum s5.2=isum s4.2):Led4 s s5 (((l1.add l2).add l3).add l4):=by
  have a1:=h1.m; have a2:=h2.m; have a3:=h3.m; have a4:=h4.m
  have b1:=h1.t; have b2:=h2.t; have b3:=h3.t; have b4:=h4.t
  have c1:=h1.mi; have c2:=h2.mi; have c3:=h3.mi; have c4:=h4.mi
  have d1:=h1.mo; have d2:=h2.mo; have d3:=h3.mo; have d4:=h4.mo
  have f1:=h1.ti; have f2:=h2.ti; have f3:=h3.ti; have f4:=h4.ti
  have g1:=h1.ou; have g2:=h2.ou; have g3:=h3.ou; have g4:=h4.ou
  refine ⟨?_,?_,?_,?_,?_,?_⟩
  · show isum s5.1=isum s.1+(l1.mi+l2.mi+l3.mi+l4.mi) - (l1.mo+l2.mo+l3.mo+l4.mo); omega
  · show isum s5.2=isum s.2+(l1.ti+l2.ti+l3.ti+l4.ti) - (l1.ou+l2.ou+l3.ou+l4.ou); omega
  · show 0≤l1.mi+l2.mi+l3.mi+l4.mi∧l1.mi+l2.mi+l3.mi+l4.mi≤40000000; omega
  · show 0≤l1.mo+l2.mo+l3.mo+l4.mo∧l1.mo+l2.mo+l3.mo+l4.mo≤40000000; omega
  · show 0≤l1.ti+l2.ti+l3.ti+l4.ti∧l1.ti+l2.ti+l3.ti+l4.ti≤40000000000; omega
  · show 0≤l1.ou+l2.ou+l3.ou+l4.ou∧l1.ou+l2.ou+l3.ou+l4.ou≤40000000000; omega
theorem qo6 {r:Int}{l:List Cell}{b:List Int}{s:S2}(F:StF r l s.1 s.2 b){p:Pl}(P:PlF p):StF r l (flow p l b s).1.1 (flow p l b s).1.2 b∧Led4 s (flow p l b s).1 (flow p l b s).2:=by
  have h1:=qbl F P.bi P.bs P.bo
  have h2:=qxy h1.1 P.rain
  have h3:=q1l h2.1 P.loss
  have h4:=qio h3.1 P.dec
  have h5:=q3c 16 0 _ h4.1
  exact ⟨h5.1,Led4.comb h1.2 h2.2 h3.2 h4.2 h5.2.1 h5.2.2⟩
theorem qvs {r:Int}{b:List Int}{s:S3}(F:StF r s.1 s.2.1 s.2.2 b){p:Pl}(P:PlF p)(k:Int):StF r (mac p b k s).1.1 (mac p b k s).1.2.1 (mac p b k s).1.2.2 b∧Led4 s.2 (mac p b k s).1.2 (mac p b k s).2:=by
  have h:=qo6 (s:=s.2) F P
  unfold mac
  by_cases g:0<p.every∧(k+1) % p.every=0
  · simp only [if_pos g]
    have a:=qa1 (s:=(s.1,(flow p s.1 b s.2).1)) h.1 p.high p.low
    exact ⟨a.1,⟨a.2.1.trans h.2.m,a.2.2.trans h.2.t,h.2.mi,h.2.mo,h.2.ti,h.2.ou⟩⟩
  · simp only [if_neg g]
    exact h
end Go.Proofs.YtjfjniebmdafeaaGreatDoor
end
section
namespace Go.Proofs.YtjfjniebmdafeaaGreatDoor
open Go.Ev
set_option maxRecDepth 20000
theorem qxl (o:Bool)(d0:D)(l:List D):(D.ptr o (d0::l)).cell 0=d0:=Eq.trans rfl rfl
theorem qv1 {fs:List Nat}{p:Nat}(h:p<fs.length)(j:Nat):j∈fs.take (p+1)↔j∈fs.take p∨j=fs.getD p 0:=by
  rw [List.take_succ_eq_append_getElem h,List.mem_append,List.mem_singleton]
  simp [h]
def Rk (tk:Int)(l:List Cell)(m b:List Int)(fs:List Nat)(j:Nat):Int:=if j∈fs then rgt tk l m b j else 0
def Lk (tk:Int)(l:List Cell)(m b:List Int)(fs:List Nat)(j:Nat):Int:=if 1≤j∧j - 1∈fs then lft tk l m b j else 0
theorem qu1 (k:Nat)(hk:2000000≤k)(fu:List (Nat×Nat))(a0:Int)(a1z:Bool)(a1:List Cell)(a2z:Bool)(a2:List Int)(a3z:Bool)(a3:List Int)(a4z:Bool)(a4:List Int)(z1 z2 z3 z4 z5:Bool)(r:Int)(l:List Cell)(m t b:List Int)(tk:Int)(F:StF r l m t b)(fs:List Nat)(hf: ∀ i∈fs,i+1<l.length∧qqb tk (qos l i)=true)(hfl:(fs.length:Int)≤1000): ∀ (n p:Nat),p≤fs.length→fs.length - p<n→
    lp (k+5) impl_State_move [(.ptr true [(.int .i64 (a0)),(.arr true (a1z) (.r3 (a1))),(.arr true (a2z) (.ints .i64 (a2))),(.arr true (a3z) (.ints .i64 (a3))),(.arr true (a4z) (.ints .i64 (a4)))])] fu 2 (n) (qzs (fs.length:Int) (p:Int) z1 l z2 m z3 t z4 b r false (tab l.length (Rk tk l m b (fs.take p))) false (tab l.length (Lk tk l m b (fs.take p))) z5 (nats fs))=lp (k+5) impl_State_move [(.ptr true [(.int .i64 (a0)),(.arr true (a1z) (.r3 (a1))),(.arr true (a2z) (.ints .i64 (a2))),(.arr true (a3z) (.ints .i64 (a3))),(.arr true (a4z) (.ints .i64 (a4)))])] fu 12 (k+5) (qzq (l.length:Int) 0 z1 l z2 m z3 t z4 b r false (tab l.length (Rk tk l m b fs)) false (tab l.length (Lk tk l m b fs)) false (List.replicate l.length 0) false (List.replicate l.length 0))
  | 0,p,hp,hn=>by omega
  | n+1,p,hp,hn=>by
    have hl:=F.len; have hm:=F.ml
    have nl:=qwl fs
    rw [qrv]
    by_cases h:p<fs.length
    · obtain ⟨h1,h2⟩:=hf _ (qpj h 0)
      have ng:=qwk h
      have hz:ff tk l m b (fs.getD p 0)=fl l m b (fs.getD p 0):=by unfold ff qao; rw [h2,dT h1]; rfl
      have b0:=qo4 F (fs.getD p 0); have a0' :=F.at (fs.getD p 0); have a1' :=F.at (fs.getD p 0+1)
      have IH:=qu1 k hk fu a0 a1z a1 a2z a2 a3z a3 a4z a4 z1 z2 z3 z4 z5 r l m t b tk F fs hf hfl n (p+1) (by omega) (by omega)
      have eF:=qd5 (k+5 - 5) (by omega) r z1 z2 z3 z4 l m t b F (fs.getD p 0) h1
      rw [show k+5 - 5+5=k+5 by omega] at eF
      by_cases g:0<fl l m b (fs.getD p 0)
      · have q1:tab l.length (fun j=>if j=fs.getD p 0 then fl l m b (fs.getD p 0) else Rk tk l m b (fs.take p) j)=tab l.length (Rk tk l m b (fs.take (p+1))):=q2y fun j hj=>by
          unfold Rk
          simp only [qv1 h]
          by_cases e:j=fs.getD p 0
          · rw [if_pos e,if_pos (.inr e),e]; unfold rgt; rw [hz]; omega
          · rw [if_neg e]; simp only [e,or_false]
        have q2:tab l.length (Lk tk l m b (fs.take p))=tab l.length (Lk tk l m b (fs.take (p+1))):=q2y fun j hj=>by
          unfold Lk
          simp only [qv1 h]
          by_cases e:1≤j∧j - 1=fs.getD p 0
          · have:lft tk l m b j=0:=by unfold lft; rw [if_pos e.1,e.2,hz]; omega
            rw [this]; simp
          · have:(1≤j∧(j - 1∈fs.take p∨j - 1=fs.getD p 0))=(1≤j∧j - 1∈fs.take p):=propext ⟨fun hh=>⟨hh.1,hh.2.resolve_right fun e2=>e ⟨hh.1,e2⟩⟩,fun hh=>⟨hh.1,.inl hh.2⟩⟩
            simp only [this]
        rw [← q1,← q2] at IH
        simp (disch:=omega) only [wk,bit,nI,nl,ng,eF,q20,q23,IH]
      · have q1:tab l.length (fun j=>if j=fs.getD p 0+1 then 0 - fl l m b (fs.getD p 0) else Lk tk l m b (fs.take p) j)=tab l.length (Lk tk l m b (fs.take (p+1))):=q2y fun j hj=>by
          unfold Lk
          simp only [qv1 h]
          by_cases e:j=fs.getD p 0+1
          · rw [if_pos e,if_pos ⟨by omega,.inr (by omega)⟩]; unfold lft; rw [if_pos (by omega),show j - 1=fs.getD p 0 by omega,hz]; omega
          · rw [if_neg e]
            have:(1≤j∧(j - 1∈fs.take p∨j - 1=fs.getD p 0))=(1≤j∧j - 1∈fs.take p):=propext ⟨fun hh=>⟨hh.1,hh.2.resolve_right fun e2=>e (by omega)⟩,fun hh=>⟨hh.1,.inl hh.2⟩⟩
            simp only [this]
        have q2:tab l.length (Rk tk l m b (fs.take p))=tab l.length (Rk tk l m b (fs.take (p+1))):=q2y fun j hj=>by
          unfold Rk
          simp only [qv1 h]
          by_cases e:j=fs.getD p 0
          · have:rgt tk l m b j=0:=by unfold rgt; rw [e,hz]; omega
            rw [this]; simp
          · simp only [e,or_false]
        rw [← q1,← q2] at IH
        simp (disch:=omega) only [wk,bit,nI,nl,ng,eF,q20,q23,IH]
    · rw [List.take_of_length_le (by omega)]
      simp (disch:=omega) only [wk,bit,nI]
      rw [hm]
def gk (A B:Nat→Int)(k j:Nat):Int:=0 - (if j<k then A j+B j else 0)+(if 1≤j∧j≤k then A (j - 1) else 0)+(if j+1<k then B (j+1) else 0)
theorem qpo (L:Nat)(A B:Nat→Int)(i:Nat):tab L (upd (gk A B i) i (A i) (B i))=tab L (gk A B (i+1)):=q2y fun j hj=>by
  unfold upd
  by_cases g1:1≤i∧j=i - 1
  · obtain ⟨g1,rfl⟩:=g1
    rw [if_pos ⟨g1,rfl⟩]
    unfold gk
    rw [if_pos (show i - 1<i by omega),if_neg (show ¬ (i - 1+1<i) by omega),if_pos (show i - 1<i+1 by omega),if_pos (show i - 1+1<i+1 by omega),show i - 1+1=i by omega]
    have e2:(1≤i - 1∧i - 1≤i)=(1≤i - 1∧i - 1≤i+1):=by rw [eq_iff_iff]; omega
    simp only [e2]; omega
  · rw [if_neg g1]
    by_cases g2:j=i+1
    · subst g2
      rw [if_pos rfl]
      unfold gk
      rw [if_neg (show ¬ (i+1<i) by omega),if_neg (show ¬ (1≤i+1∧i+1≤i) by omega),if_neg (show ¬ (i+1+1<i) by omega),if_neg (show ¬ (i+1<i+1) by omega),if_pos (show 1≤i+1∧i+1≤i+1 by omega),if_neg (show ¬ (i+1+1<i+1) by omega),Nat.add_sub_cancel]; omega
    · rw [if_neg g2]
      by_cases g3:j=i
      · subst g3
        rw [if_pos rfl]
        unfold gk
        rw [if_neg (show ¬ (j<j) by omega),if_neg (show ¬ (j+1<j) by omega),if_pos (show j<j+1 by omega),if_neg (show ¬ (j+1<j+1) by omega)]
        have e2:(1≤j∧j≤j)=(1≤j∧j≤j+1):=by rw [eq_iff_iff]; omega
        simp only [e2]; omega
      · rw [if_neg g3]
        unfold gk
        have e1:(j<i)=(j<i+1):=by rw [eq_iff_iff]; omega
        have e2:(1≤j∧j≤i)=(1≤j∧j≤i+1):=by rw [eq_iff_iff]; omega
        have e3:(j+1<i)=(j+1<i+1):=by rw [eq_iff_iff]; omega
        simp only [e1,e2,e3]
theorem qpn {A B:Nat→Int}{C:Int}(hA: ∀ j,-C≤A j∧A j≤C)(hB: ∀ j,-C≤B j∧B j≤C)(k j:Nat): -(4*C)≤gk A B k j∧gk A B k j≤4*C:=by
  have a:=hA j; have b:=hB j; have c:=hA (j - 1); have d:=hB (j+1)
  unfold gk
  split<;>split<;>split<;>omega
theorem qpp (L:Nat)(A B:Nat→Int):List.replicate L (0:Int)=tab L (gk A B 0):=by
  rw [q25]
  refine q2y fun j hj=> ?_
  unfold gk
  rw [if_neg (by omega),if_neg (by omega),if_neg (by omega)]; rfl
def sh (G:Nat→Int)(i u:Nat)(x:Int)(j:Nat):Int:=if j=u then G u+x else if j=i then G i - x else G j
theorem qfc (k:Nat)(hk:2000000≤k)(L:Nat)(G H:Nat→Int)(i u:Nat)(x y:Int)(z z' :Bool)(hi:i<L)(hu:u<L)(hiu:i≠u)(hx:0<x)(hL:(L:Int)≤1000)(hx2:x≤1000000000000000000)(hy: -1000000000000000000≤y∧y≤1000000000000000000)
    (g1: -1000000000000000000≤G i∧G i≤1000000000000000000) (g2: -1000000000000000000≤G u∧G u≤1000000000000000000) (g3: -1000000000000000000≤H i∧H i≤1000000000000000000) (g4: -1000000000000000000≤H u∧H u≤1000000000000000000):
    go (k+1) impl_State_move_1 [.int .i64 (i:Int),.int .i64 (u:Int),.int .i64 x,.int .i64 y,.ptr true [.arr true z (.ints .i64 (tab L G))],.ptr true [.arr true z' (.ints .i64 (tab L H))]]=some [.ptr true [.arr true z (.ints .i64 (tab L (sh G i u x)))],.ptr true [.arr true z' (.ints .i64 (tab L (sh H i u y)))]]:=by
  rw [qkq]
  simp (disch:=omega) only [wk,bit,nI,q20,q2z,q23,itT,itF,niF,if_neg]
  rfl
theorem qfd (k:Nat)(hk:2000000≤k)(a b x y:Int)(z z' :Bool)(l l' :List Int)(hx:x=0):
    go (k+1) impl_State_move_1 [.int .i64 a,.int .i64 b,.int .i64 x,.int .i64 y,.ptr true [.arr true z (.ints .i64 l)],.ptr true [.arr true z' (.ints .i64 l')]]=some [.ptr true [.arr true z (.ints .i64 l)],.ptr true [.arr true z' (.ints .i64 l')]]:=by
  rw [qkq]
  simp (disch:=omega) only [wk,bit,nI]
theorem q1b {G:Nat→Int}{i:Nat}{A B:Int}(g:1≤i):sh (sh G i (i+1) A) i (i - 1) B=upd G i A B:=by
  funext j
  unfold sh upd
  by_cases q1:j=i - 1
  · subst q1; simp (disch:=omega) only [itT,true_and,and_true,if_pos,if_neg]
  · by_cases q2:j=i+1
    · subst q2; simp (disch:=omega) only [itT,true_and,and_true,if_pos,if_neg]
    · by_cases q3:j=i
      · subst q3; simp (disch:=omega) only [itT,true_and,and_true,if_pos,if_neg]
      · simp (disch:=omega) only [if_neg]
theorem sh_r {G:Nat→Int}{i:Nat}{A B:Int}(hB:B=0):sh G i (i+1) A=upd G i A B:=by
  funext j
  unfold sh upd
  subst hB
  by_cases q1:1≤i∧j=i - 1
  · obtain ⟨q0,rfl⟩:=q1; simp (disch:=omega) only [itT,true_and,and_true,if_pos,if_neg,Int.add_zero]
  · by_cases q2:j=i+1
    · subst q2; simp (disch:=omega) only [itT,true_and,and_true,if_pos,if_neg]
    · by_cases q3:j=i
      · subst q3; simp (disch:=omega) only [itT,true_and,and_true,if_pos,if_neg,Int.sub_zero]
      · simp (disch:=omega) only [if_neg]
theorem sh_l {G:Nat→Int}{i:Nat}{A B:Int}(g:1≤i)(hA:A=0):sh G i (i - 1) B=upd G i A B:=by
  funext j
  unfold sh upd
  subst hA
  by_cases q1:j=i - 1
  · subst q1; simp (disch:=omega) only [itT,true_and,and_true,if_pos,if_neg]
  · by_cases q2:j=i+1
    · subst q2; simp (disch:=omega) only [itT,true_and,and_true,if_pos,if_neg,Int.add_zero]
    · by_cases q3:j=i
      · subst q3; simp (disch:=omega) only [itT,true_and,and_true,if_pos,if_neg,Int.sub_zero]
      · simp (disch:=omega) only [if_neg]
theorem sh_0 {G:Nat→Int}{i:Nat}{A B:Int}(hA:A=0)(hB:B=0):G=upd G i A B:=by
  funext j
  unfold upd
  subst hA hB
  by_cases q1:1≤i∧j=i - 1
  · simp (disch:=omega) only [itT,true_and,and_true,if_pos,if_neg,Int.add_zero]
  · by_cases q2:j=i+1
    · subst q2; simp (disch:=omega) only [itT,true_and,and_true,if_pos,if_neg,Int.add_zero]
    · by_cases q3:j=i
      · subst q3; simp (disch:=omega) only [itT,true_and,and_true,if_pos,if_neg,Int.sub_zero]
      · simp (disch:=omega) only [if_neg]
theorem rgtB {r:Int}{l:List Cell}{m t b:List Int}(F:StF r l m t b)(tk:Int)(j:Nat):0≤rgt tk l m b j∧rgt tk l m b j≤2500000:=by
  have f1:=qou F tk j; have a0:=F.at j
  unfold rgt; omega
theorem lftB {r:Int}{l:List Cell}{m t b:List Int}(F:StF r l m t b)(tk:Int)(j:Nat):0≤lft tk l m b j∧lft tk l m b j≤2500000:=by
  have f1:=qou F tk (j - 1); have a0:=F.at (j - 1+1)
  unfold lft
  split<;>omega
set_option maxHeartbeats 1000000 in
theorem quz (k:Nat)(hk:2000000≤k)(fu:List (Nat×Nat))(a0:Int)(a1z:Bool)(a1:List Cell)(a2z:Bool)(a2:List Int)(a3z:Bool)(a3:List Int)(a4z:Bool)(a4:List Int)(z1 z2 z3 z4:Bool)(r:Int)(l:List Cell)(m t b:List Int)(tk:Int)(F:StF r l m t b): ∀ (n i:Nat),i≤l.length→l.length - i<n→
    lp (k+5) impl_State_move [(.ptr true [(.int .i64 (a0)),(.arr true (a1z) (.r3 (a1))),(.arr true (a2z) (.ints .i64 (a2))),(.arr true (a3z) (.ints .i64 (a3))),(.arr true (a4z) (.ints .i64 (a4)))])] fu 12 (n) (qzq (l.length:Int) (i:Int) z1 l z2 m z3 t z4 b r false (tab l.length (rgt tk l m b)) false (tab l.length (lft tk l m b)) false (tab l.length (gk (rgt tk l m b) (lft tk l m b) i)) false (tab l.length (gk (outA tk l m t b) (outB tk l m t b) i)))=
      lp (k+5) impl_State_move [(.ptr true [(.int .i64 (a0)),(.arr true (a1z) (.r3 (a1))),(.arr true (a2z) (.ints .i64 (a2))),(.arr true (a3z) (.ints .i64 (a3))),(.arr true (a4z) (.ints .i64 (a4)))])] fu 19 (k+5) (qzr (l.length:Int) 0 z1 l z2 m z3 t z4 b r false (tab l.length (gk (rgt tk l m b) (lft tk l m b) l.length)) false (tab l.length (gk (outA tk l m t b) (outB tk l m t b) l.length)))
  | 0,i,hi,hn=>by omega
  | n+1,i,hi,hn=>by
    have hl:=F.len; have hm:=F.ml; have ht:=F.tl
    rw [qrt]
    by_cases h:i<l.length
    · have IH:=quz k hk fu a0 a1z a1 a2z a2 a3z a3 a4z a4 z1 z2 z3 z4 r l m t b tk F n (i+1) (by omega) (by omega)
      rw [← qpo l.length (rgt tk l m b) (lft tk l m b) i,← qpo l.length (outA tk l m t b) (outB tk l m t b) i] at IH
      have B1: ∀ p j,-10000000≤gk (rgt tk l m b) (lft tk l m b) p j∧gk (rgt tk l m b) (lft tk l m b) p j≤10000000:=fun p j=>qpn (C:=2500000) (fun j=>by have:=rgtB F tk j; omega) (fun j=>by have:=lftB F tk j; omega) p j
      have B2: ∀ p j,-400000000000000000≤gk (outA tk l m t b) (outB tk l m t b) p j∧gk (outA tk l m t b) (outB tk l m t b) p j≤400000000000000000:=fun p j=>qpn (C:=100000000000000000) (fun j=>by have:=qxa tk l m t b j; omega) (fun j=>qxc tk l m t b j) p j
      have r1:=rgtB F tk i; have r2:=lftB F tk i
      have A:=qxa tk l m t b i; have B:=qxc tk l m t b i
      have b1:=B1 i i; have b2:=B1 i (i+1); have b3:=B1 i (i - 1); have c1:=B2 i i; have c2:=B2 i (i+1); have c3:=B2 i (i - 1)
      have hA:loA (t.getD i 0) (m.getD i 0) (rgt tk l m b i) (lft tk l m b i)=outA tk l m t b i:=rfl
      have hB:loB (t.getD i 0) (m.getD i 0) (rgt tk l m b i) (lft tk l m b i)=outB tk l m t b i:=rfl
      have hi1:0<rgt tk l m b i→i+1<l.length:=fun g4=>by
        rcases Nat.lt_or_ge (i+1) l.length with q | q
        · exact q
        · unfold rgt at g4; rw [qot q] at g4; omega
      have hi0:0<lft tk l m b i→1≤i:=fun g4=>by
        rcases Nat.lt_or_ge 0 i with q | q
        · exact q
        · unfold lft at g4; rw [if_neg (by omega)] at g4; omega
      have zA:rgt tk l m b i=0→outA tk l m t b i=0:=qxb
      have zB:lft tk l m b i=0→outB tk l m t b i=0:=qxd
      by_cases g4:0<rgt tk l m b i
      · have i1:=hi1 g4
        have s1:=qfc (k+5 - 1) (by omega) l.length (gk (rgt tk l m b) (lft tk l m b) i) (gk (outA tk l m t b) (outB tk l m t b) i) i (i+1) (rgt tk l m b i) (outA tk l m t b i) false false h i1 (by omega) g4 (by omega) (by omega) (by omega) (by omega) (by omega) (by omega) (by omega)
        rw [show k+5 - 1+1=k+5 by omega] at s1
        by_cases g5:0<lft tk l m b i
        · have i0:=hi0 g5
          have e1:sh (gk (rgt tk l m b) (lft tk l m b) i) i (i+1) (rgt tk l m b i) i=gk (rgt tk l m b) (lft tk l m b) i i - rgt tk l m b i:=by unfold sh; rw [if_neg (by omega),if_pos rfl]
          have e2:sh (gk (rgt tk l m b) (lft tk l m b) i) i (i+1) (rgt tk l m b i) (i - 1)=gk (rgt tk l m b) (lft tk l m b) i (i - 1):=by unfold sh; rw [if_neg (by omega),if_neg (by omega)]
          have e3:sh (gk (outA tk l m t b) (outB tk l m t b) i) i (i+1) (outA tk l m t b i) i=gk (outA tk l m t b) (outB tk l m t b) i i - outA tk l m t b i:=by unfold sh; rw [if_neg (by omega),if_pos rfl]
          have e4:sh (gk (outA tk l m t b) (outB tk l m t b) i) i (i+1) (outA tk l m t b i) (i - 1)=gk (outA tk l m t b) (outB tk l m t b) i (i - 1):=by unfold sh; rw [if_neg (by omega),if_neg (by omega)]
          have s2:=qfc (k+5 - 1) (by omega) l.length (sh (gk (rgt tk l m b) (lft tk l m b) i) i (i+1) (rgt tk l m b i)) (sh (gk (outA tk l m t b) (outB tk l m t b) i) i (i+1) (outA tk l m t b i)) i (i - 1) (lft tk l m b i) (outB tk l m t b i) false false h (by omega) (by omega) g5 (by omega) (by omega) (by omega) (by omega) (by omega) (by omega) (by omega)
          rw [show k+5 - 1+1=k+5 by omega] at s2
          rw [← q1b i0,← q1b i0] at IH
          simp (disch:=omega) only [wk,bit,nI,qhj,q20,q2z,qxl,qcf,hA,hB,s1,s2]
          exact IH
        · have z0:lft tk l m b i=0:=by omega
          rw [← sh_r z0,← sh_r (zB z0)] at IH
          simp (disch:=omega) only [wk,bit,nI,q20,q2z,qxl,qcf,hA,hB,s1,qfd]
          exact IH
      · have z1' :rgt tk l m b i=0:=by omega
        by_cases g5:0<lft tk l m b i
        · have i0:=hi0 g5
          have s2:=qfc (k+5 - 1) (by omega) l.length (gk (rgt tk l m b) (lft tk l m b) i) (gk (outA tk l m t b) (outB tk l m t b) i) i (i - 1) (lft tk l m b i) (outB tk l m t b i) false false h (by omega) (by omega) g5 (by omega) (by omega) (by omega) (by omega) (by omega) (by omega) (by omega)
          rw [show k+5 - 1+1=k+5 by omega] at s2
          rw [← sh_l i0 z1',← sh_l i0 (zA z1')] at IH
          simp (disch:=omega) only [wk,bit,nI,qhj,q20,q2z,qxl,qcf,hA,hB,s2,qfd]
          exact IH
        · have z0:lft tk l m b i=0:=by omega
          rw [← sh_0 z1' z0,← sh_0 (zA z1') (zB z0)] at IH
          simp (disch:=omega) only [wk,bit,nI,q20,q2z,qxl,qcf,hA,hB,qfd]
          exact IH
    · simp (disch:=omega) only [wk,bit,nI]
      rw [show i=l.length by omega,hm]
end Go.Proofs.YtjfjniebmdafeaaGreatDoor
end
section
namespace Go.Proofs.YtjfjniebmdafeaaGreatDoor
open Go.Ev
set_option maxRecDepth 20000
theorem qpl (tk:Int)(l:List Cell)(m b:List Int){j:Nat}(hj:j<l.length):m.getD j 0+gk (rgt tk l m b) (lft tk l m b) l.length j=stM tk l m b j:=by
  have e1:lft tk l m b (j+1)=max 0 (0 - ff tk l m b j):=by unfold lft; rw [if_pos (by omega),Nat.add_sub_cancel]
  have e2:rgt tk l m b j=max 0 (ff tk l m b j):=rfl
  have e3:(if j+1<l.length then lft tk l m b (j+1) else 0)=max 0 (0 - ff tk l m b j):=by
    by_cases g:j+1<l.length
    · rw [if_pos g,e1]
    · rw [if_neg g,qot (by omega)]; rfl
  unfold gk stM
  rw [if_pos hj,e3,e2]
  by_cases g:1≤j
  · have e4:lft tk l m b j=max 0 (0 - ff tk l m b (j - 1)):=by unfold lft; rw [if_pos g]
    have e5:rgt tk l m b (j - 1)=max 0 (ff tk l m b (j - 1)):=rfl
    rw [if_pos (by omega),if_pos g,e4,e5]; omega
  · have e4:lft tk l m b j=0:=by unfold lft; rw [if_neg g]
    rw [if_neg (by omega),if_neg g,e4]; omega
theorem qpm (tk:Int)(l:List Cell)(m t b:List Int){j:Nat}(hj:j<l.length):t.getD j 0+gk (outA tk l m t b) (outB tk l m t b) l.length j=stT tk l m t b j:=by
  have e3:(if j+1<l.length then outB tk l m t b (j+1) else 0)=outB tk l m t b (j+1):=by
    by_cases g:j+1<l.length
    · rw [if_pos g]
    · rw [if_neg g,qxd]
      unfold lft
      rw [if_pos (by omega),Nat.add_sub_cancel,qot (by omega)]; rfl
  unfold gk stT
  rw [if_pos hj,e3]
  by_cases g:1≤j
  · rw [if_pos (by omega),if_pos g]; omega
  · rw [if_neg (by omega),if_neg g]; omega
theorem qu0 (k:Nat)(hk:2000000≤k)(fu:List (Nat×Nat))(a0:Int)(a1z:Bool)(a1:List Cell)(a2z:Bool)(a2:List Int)(a3z:Bool)(a3:List Int)(a4z:Bool)(a4:List Int)(z1 z2 z3 z4:Bool)(r:Int)(l:List Cell)(m t b:List Int)(tk:Int)(F:StF r l m t b): ∀ (n i:Nat),i≤l.length→l.length - i<n→
    lp (k+5) impl_State_move [(.ptr true [(.int .i64 (a0)),(.arr true (a1z) (.r3 (a1))),(.arr true (a2z) (.ints .i64 (a2))),(.arr true (a3z) (.ints .i64 (a3))),(.arr true (a4z) (.ints .i64 (a4)))])] fu 19 (n) (qzr (l.length:Int) (i:Int) z1 l z2 (tab l.length (fun j=>if j<i then stM tk l m b j else m.getD j 0)) z3 (tab l.length (fun j=>if j<i then stT tk l m t b j else t.getD j 0)) z4 b r false (tab l.length (gk (rgt tk l m b) (lft tk l m b) l.length)) false (tab l.length (gk (outA tk l m t b) (outB tk l m t b) l.length)))=
      some [.ptr true [.int .i64 (r),.arr true (z1) (.r3 (l)),.arr true (z2) (.ints .i64 (tab l.length (stM tk l m b))),.arr true (z3) (.ints .i64 (tab l.length (stT tk l m t b))),.arr true (z4) (.ints .i64 (b))]]
  | 0,i,hi,hn=>by omega
  | n+1,i,hi,hn=>by
    have hl:=F.len
    rw [qru]
    by_cases h:i<l.length
    · have IH:=qu0 k hk fu a0 a1z a1 a2z a2 a3z a3 a4z a4 z1 z2 z3 z4 r l m t b tk F n (i+1) (by omega) (by omega)
      have q1:tab l.length (fun j=>if j=i then stM tk l m b i else if j<i then stM tk l m b j else m.getD j 0)=tab l.length (fun j=>if j<i+1 then stM tk l m b j else m.getD j 0):=q2y fun j hj=>by
        by_cases e:j=i
        · subst e; rw [if_pos rfl,if_pos (by omega)]
        · rw [if_neg e]
          by_cases e2:j<i
          · rw [if_pos e2,if_pos (by omega)]
          · rw [if_neg e2,if_neg (by omega)]
      have q2:tab l.length (fun j=>if j=i then stT tk l m t b i else if j<i then stT tk l m t b j else t.getD j 0)=tab l.length (fun j=>if j<i+1 then stT tk l m t b j else t.getD j 0):=q2y fun j hj=>by
        by_cases e:j=i
        · subst e; rw [if_pos rfl,if_pos (by omega)]
        · rw [if_neg e]
          by_cases e2:j<i
          · rw [if_pos e2,if_pos (by omega)]
          · rw [if_neg e2,if_neg (by omega)]
      rw [← q1,← q2] at IH
      have B1:=qpn (A:=rgt tk l m b) (B:=lft tk l m b) (C:=2500000) (fun j=>by have:=rgtB F tk j; omega) (fun j=>by have:=lftB F tk j; omega) l.length i
      have B2:=qpn (A:=outA tk l m t b) (B:=outB tk l m t b) (C:=100000000000000000) (fun j=>by have:=qxa tk l m t b j; omega) (fun j=>qxc tk l m t b j) l.length i
      have a:=F.at i
      have v1:(if i<i then stM tk l m b i else m.getD i 0)=m.getD i 0:=if_neg (by omega)
      have v2:(if i<i then stT tk l m t b i else t.getD i 0)=t.getD i 0:=if_neg (by omega)
      have e1:=qpl tk l m b h
      have e2:=qpm tk l m t b h
      simp (disch:=omega) only [wk,bit,nI,q20,q2z,q23,v1,v2,e1,e2]
      exact IH
    · simp (disch:=omega) only [wk,bit,nI,q20]
      have q1:tab l.length (fun j=>if j<i then stM tk l m b j else m.getD j 0)=tab l.length (stM tk l m b):=q2y fun j hj=>by rw [if_pos (by omega)]
      have q2:tab l.length (fun j=>if j<i then stT tk l m t b j else t.getD j 0)=tab l.length (stT tk l m t b):=q2y fun j hj=>by rw [if_pos (by omega)]
      rw [q1,q2]
theorem qa0 {tk:Int}{l:List Cell} :(∀ i∈acts tk l,i+1<l.length∧qqb tk (qos l i)=true)∧(acts tk l).length≤l.length - 1:=by
  refine ⟨fun i hi=> ?_,qaq tk l _ _⟩
  unfold acts at hi
  rw [qar] at hi
  exact ⟨by omega,hi.2⟩
theorem qov {tk:Int}{l:List Cell}{m b:List Int}{i:Nat}(h:i ∉ acts tk l):ff tk l m b i=0:=by
  unfold acts at h
  rw [qar] at h
  unfold ff qao
  by_cases g:i+1<l.length
  · have:qqb tk (qos l i)=false:=by
      rw [← Bool.not_eq_true]
      exact fun e=>h ⟨⟨by omega,by omega⟩,e⟩
    rw [this]; simp
  · rw [dF g]; rfl
theorem qai (tk:Int)(l:List Cell)(m b:List Int):tab l.length (Rk tk l m b (acts tk l))=tab l.length (rgt tk l m b):=q2y fun j hj=>by
  unfold Rk
  by_cases g:j∈acts tk l
  · rw [if_pos g]
  · rw [if_neg g]; unfold rgt; rw [qov g]; rfl
theorem qac (tk:Int)(l:List Cell)(m b:List Int):tab l.length (Lk tk l m b (acts tk l))=tab l.length (lft tk l m b):=q2y fun j hj=>by
  unfold Lk
  by_cases g:1≤j∧j - 1∈acts tk l
  · rw [if_pos g]
  · rw [if_neg g]; unfold lft
    by_cases g2:1≤j
    · rw [if_pos g2,qov (fun e=>g ⟨g2,e⟩)]; rfl
    · rw [if_neg g2]
theorem qaj (tk:Int)(l:List Cell)(m b:List Int):List.replicate l.length (0:Int)=tab l.length (Rk tk l m b []):=by
  rw [q25]
  exact q2y fun j hj=>by unfold Rk; rw [if_neg (by simp)]
theorem qad (tk:Int)(l:List Cell)(m b:List Int):List.replicate l.length (0:Int)=tab l.length (Lk tk l m b []):=by
  rw [q25]
  exact q2y fun j hj=>by unfold Lk; rw [if_neg (by simp)]
theorem qdw (k:Nat)(hk:2000000≤k)(z1 z2 z3 z4 z5:Bool)(r:Int)(l:List Cell)(m t b:List Int)(tk:Int)(F:StF r l m t b):
    go (k+6) impl_State_move [.ptr true [.int .i64 (r),.arr true (z1) (.r3 (l)),.arr true (z2) (.ints .i64 (m)),.arr true (z3) (.ints .i64 (t)),.arr true (z4) (.ints .i64 (b))],.arr false z5 (.ints .i64 (nats (acts tk l)))]=some [.ptr true [.int .i64 (r),.arr true (z1) (.r3 (l)),.arr true (z2) (.ints .i64 (tab l.length (stM tk l m b))),.arr true (z3) (.ints .i64 (tab l.length (stT tk l m t b))),.arr true (z4) (.ints .i64 (b))]]:=by
  rw [qkp]
  have hl:=F.len; have hm:=F.ml; have ht:=F.tl
  have ao:=qa0 (tk:=tk) (l:=l)
  have e1:=qu1 k hk [] r z1 l z2 m z3 t z4 b z1 z2 z3 z4 z5 r l m t b tk F (acts tk l) ao.1 (by omega) (k+5) 0 (by omega) (by omega)
  have e2:=quz k hk [] r z1 l z2 m z3 t z4 b z1 z2 z3 z4 r l m t b tk F (k+5) 0 (by omega) (by omega)
  have e3:=qu0 k hk [] r z1 l z2 m z3 t z4 b z1 z2 z3 z4 r l m t b tk F (k+5) 0 (by omega) (by omega)
  rw [List.take_zero,← qaj,← qad,qai,qac] at e1
  rw [← qpp,← qpp] at e2
  have q1:tab l.length (fun j=>if j<0 then stM tk l m b j else m.getD j 0)=m:=by
    refine Eq.trans (q2y fun j hj=> ?_) (hm ▸ (q22 m).symm)
    rw [if_neg (by omega)]
  have q2:tab l.length (fun j=>if j<0 then stT tk l m t b j else t.getD j 0)=t:=by
    refine Eq.trans (q2y fun j hj=> ?_) (ht ▸ (q22 t).symm)
    rw [if_neg (by omega)]
  rw [q1,q2] at e3
  have nl:=qwl (acts tk l)
  simp (disch:=omega) only [wk,bit,nI,nl,hm]
  exact e1.trans (e2.trans e3)
end Go.Proofs.YtjfjniebmdafeaaGreatDoor
end
section
namespace Go.Proofs.YtjfjniebmdafeaaGreatDoor
open Go.Ev
set_option maxRecDepth 20000
theorem qx1 (o:Bool)(d0:D)(l:List D):(D.ptr o (d0::l)).cell 0=d0:=Eq.trans rfl rfl
theorem qx2 (o:Bool)(d0 d1:D)(l:List D):(D.ptr o (d0::d1::l)).cell 1=d1:=Eq.trans rfl rfl
theorem qx3 (o:Bool)(d0 d1 d2:D)(l:List D):(D.ptr o (d0::d1::d2::l)).cell 2=d2:=Eq.trans rfl rfl
theorem qx4 (o:Bool)(d0 d1 d2 d3:D)(l:List D):(D.ptr o (d0::d1::d2::d3::l)).cell 3=d3:=Eq.trans rfl rfl
theorem qx5 (o:Bool)(d0 d1 d2 d3 d4:D)(l:List D):(D.ptr o (d0::d1::d2::d3::d4::l)).cell 4=d4:=Eq.trans rfl rfl
def upto (L i:Nat)(f g:Nat→Int):List Int:=tab L (fun j=>if j<i then f j else g j)
theorem q3w (L i:Nat)(f g:Nat→Int):(upto L i f g).length=L:=q20 _ _
theorem q3v {L i:Nat}{f g:Nat→Int}(h:i<L):(upto L i f g).getD i 0=g i:=by
  unfold upto; rw [q2z h,if_neg (by omega)]
theorem q3x (L i:Nat)(f g:Nat→Int)(v:Int)(hv:v=f i):(upto L i f g).set i v=upto L (i+1) f g:=by
  unfold upto
  rw [q23]
  refine q2y fun j hj=> ?_
  by_cases e:j=i
  · subst e; rw [if_pos rfl,if_pos (by omega),hv]
  · rw [if_neg e]
    by_cases e2:j<i
    · rw [if_pos e2,if_pos (by omega)]
    · rw [if_neg e2,if_neg (by omega)]
theorem q3y (m:List Int)(L:Nat)(h:m.length=L)(f:Nat→Int):upto L 0 f (fun j=>m.getD j 0)=m:=by
  subst h
  refine Eq.trans (q2y fun j hj=> ?_) (q22 m).symm
  rw [if_neg (by omega)]
theorem q3u (L:Nat)(f g:Nat→Int):upto L L f g=tab L f:=q2y fun j hj=>if_pos hj
theorem q29 {a:Int}(ha:0≤a∧a≤10000)(l:List Cell)(i:Nat):(0≤a*q33 (l.getD i zz3).2.1∧a*q33 (l.getD i zz3).2.1≤160000)∧Int.tdiv (a*q33 (l.getD i zz3).2.1) 16=part a l i:=by
  have w:=q35 (l.getD i zz3).2.1
  have h1:=Int.mul_nonneg ha.1 w.1
  have h2:a*q33 (l.getD i zz3).2.1≤a*16:=Int.mul_le_mul_of_nonneg_left w.2 ha.1
  exact ⟨⟨h1,by omega⟩,Int.tdiv_eq_ediv_of_nonneg h1⟩
theorem qdz (k:Nat)(hk:2000000≤k)(z1 z2 z3 z4:Bool)(r:Int)(l:List Cell)(m t b:List Int)(a:Int)(ha:0≤a∧a≤10000)(i:Nat)(hi:i<l.length)(hl:l.length≤128):
    go (k+4) impl_State_partOf [.agg [.int .i64 (r),.arr false (z1) (.r3 (l)),.arr false (z2) (.ints .i64 (m)),.arr false (z3) (.ints .i64 (t)),.arr false (z4) (.ints .i64 (b))],.int .i64 a,.int .i64 (i:Int)]=some [.int .i64 (part a l i)]:=by
  rw [qkr]
  have d:=q29 ha l i; have p:=qxj ha l i
  have e:=d.2
  simp (disch:=omega) only [wk,bit,nI,qcy,e]
theorem qg3 (k:Nat)(hk:2000000≤k)(l:List Cell)(a:Int)(ha:0≤a∧a≤10000)(i:Nat):
    go (k+3) spec_l14Part [.int .i64 a,.int .i64 (l.getD i zz3).2.1]=some [.int .i64 (part a l i)]:=by
  rw [qob]
  have d:=q29 ha l i; have p:=qxj ha l i
  have e:=d.2
  simp (disch:=omega) only [wk,bit,nI,qgf,e]
theorem q2r {x:List Int}(h: ∀ v∈x,0≤v∧v≤1000000000000)(n:Nat):q2o (fun j=>x.getD j 0) n≤isum x:=by
  rw [qqk x]
  have nn: ∀ j,0≤x.getD j 0:=fun j=>by
    by_cases g:j<x.length
    · exact (h _ (qpj g 0)).1
    · rw [qpi (by omega)]; exact Int.le_refl 0
  have up: ∀ d,q2o (fun j=>x.getD j 0) n≤q2o (fun j=>x.getD j 0) (n+d):=by
    intro d
    induction d with
    | zero=>exact Int.le_refl _
    | succ d ih=>have:=nn (n+d); rw [show n+(d+1)=(n+d)+1 from rfl,q2o]; omega
  by_cases g:n≤x.length
  · have:=up (x.length - n)
    rwa [show n+(x.length - n)=x.length by omega] at this
  · have hi: ∀ d,q2o (fun j=>x.getD j 0) (x.length+d)=q2o (fun j=>x.getD j 0) x.length:=by
      intro d
      induction d with
      | zero=>rfl
      | succ d ih=>rw [show x.length+(d+1)=(x.length+d)+1 from rfl,q2o,ih,qpi (by omega)]; omega
    have:=hi (n - x.length)
    rw [show x.length+(n - x.length)=n by omega] at this
    rw [this]; exact Int.le_refl _
abbrev raF (a:Int)(l:List Cell)(m:List Int)(j:Nat):Int:=m.getD j 0+part a l j
theorem quj (k:Nat)(hk:2000000≤k)(fu:List (Nat×Nat))(a0:Int)(a1z:Bool)(a1:List Cell)(a2z:Bool)(a2:List Int)(a3z:Bool)(a3:List Int)(a4z:Bool)(a4:List Int)(z1 z2 z3 z4:Bool)(r:Int)(l:List Cell)(m t b:List Int)(a tot:Int)(ha:0≤a∧a≤10000)(F:StF r l m t b): ∀ (N i:Nat),i≤l.length→l.length - i<N→
    lp (k+4) impl_State_rain [(.ptr true [(.int .i64 (a0)),(.arr true (a1z) (.r3 (a1))),(.arr true (a2z) (.ints .i64 (a2))),(.arr true (a3z) (.ints .i64 (a3))),(.arr true (a4z) (.ints .i64 (a4)))])] fu 10 (N) (qzt a tot (l.length:Int) (i:Int) z1 l z2 (upto l.length i (raF a l m) (fun j=>m.getD j 0)) z3 t z4 b r 0 0 0 0)=some [.agg [.int .i64 tot,.int .i64 0,.int .i64 0,.int .i64 0],.ptr true [.int .i64 (r),.arr true (z1) (.r3 (l)),.arr true (z2) (.ints .i64 (tab l.length (raF a l m))),.arr true (z3) (.ints .i64 (t)),.arr true (z4) (.ints .i64 (b))]]
  | 0,i,hi,hN=>by omega
  | N+1,i,hi,hN=>by
    rw [qrw]
    have L:=F.len; have f:=F.at i; have p:=qxj ha l i
    by_cases g:i<l.length
    · have IH:=quj k hk fu a0 a1z a1 a2z a2 a3z a3 a4z a4 z1 z2 z3 z4 r l m t b a tot ha F N (i+1) (by omega) (by omega)
      have es:(upto l.length i (raF a l m) (fun j=>m.getD j 0)).set i (m.getD i 0+part a l i)=upto l.length (i+1) (raF a l m) (fun j=>m.getD j 0):=q3x _ _ _ _ _ rfl
      have eg:(upto l.length i (raF a l m) (fun j=>m.getD j 0)).getD i 0=m.getD i 0:=q3v g
      simp (disch:=omega) only [wk,bit,nI,q3w,qdz,eg,es,IH]
    · have:i=l.length:=by omega
      subst this
      simp (disch:=omega) only [wk,bit,nI,q3u]
theorem quk (k:Nat)(hk:2000000≤k)(fu:List (Nat×Nat))(a0:Int)(a1z:Bool)(a1:List Cell)(a2z:Bool)(a2:List Int)(a3z:Bool)(a3:List Int)(a4z:Bool)(a4:List Int)(z1 z2 z3 z4:Bool)(r:Int)(l:List Cell)(m t b:List Int)(a:Int)(ha:0≤a∧a≤10000)(F:StF r l m t b): ∀ (N i:Nat),i≤l.length→l.length - i<N→
    lp (k+4) impl_State_rain [(.ptr true [(.int .i64 (a0)),(.arr true (a1z) (.r3 (a1))),(.arr true (a2z) (.ints .i64 (a2))),(.arr true (a3z) (.ints .i64 (a3))),(.arr true (a4z) (.ints .i64 (a4)))])] fu 3 (N) (qzu a (q2o (part a l) i) (l.length:Int) (i:Int) z1 l z2 m z3 t z4 b r 0 0 0 0)=some [.agg [.int .i64 (raS a l (m,t)).2.mi,.int .i64 0,.int .i64 0,.int .i64 0],.ptr true [.int .i64 (r),.arr true (z1) (.r3 (l)),.arr true (z2) (.ints .i64 ((raS a l (m,t)).1.1)),.arr true (z3) (.ints .i64 (t)),.arr true (z4) (.ints .i64 (b))]]
  | 0,i,hi,hN=>by omega
  | N+1,i,hi,hN=>by
    rw [qrx]
    have L:=F.len; have p:=qxj ha l i; have ps:=qxk ha l i; have ml:=F.ml; have ms:=F.msum
    by_cases g:i<l.length
    · have IH:=quk k hk fu a0 a1z a1 a2z a2 a3z a3 a4z a4 z1 z2 z3 z4 r l m t b a ha F N (i+1) (by omega) (by omega)
      rw [show q2o (part a l) (i+1)=q2o (part a l) i+part a l i from rfl] at IH
      simp (disch:=omega) only [wk,bit,nI,qdz,IH]
    · have:i=l.length:=by omega
      subst this
      have e10:=quj k hk fu a0 a1z a1 a2z a2 a3z a3 a4z a4 z1 z2 z3 z4 r l m t b a (q2o (part a l) l.length) ha F (k+4) 0 (by omega) (by omega)
      rw [q3y m l.length ml] at e10
      rw [show ((0:Nat):Int)=0 from rfl] at e10
      have es:=qd9 (k+3) (by omega) z2 m (by omega) F.mmem
      unfold raS
      by_cases h:isum m+q2o (part a l) l.length≤10000000
      · rw [if_pos h]
        simp (disch:=omega) only [wk,bit,nI,es,ml]
        exact e10
      · rw [if_neg h]
        simp (disch:=omega) only [wk,bit,nI,es]
theorem qxz (a:Int)(l:List Cell)(s:S2):(raS a l s).1.2=s.2:=by unfold raS; split<;>rfl
theorem qx0 (a:Int)(l:List Cell)(s:S2):(raS a l s).2.mo=0∧(raS a l s).2.ti=0∧(raS a l s).2.ou=0:=by unfold raS; split<;>exact ⟨rfl,rfl,rfl⟩
theorem qd0 (k:Nat)(hk:2000000≤k)(z1 z2 z3 z4:Bool)(r:Int)(l:List Cell)(m t b:List Int)(a:Int)(ha:0≤a∧a≤10000)(F:StF r l m t b):
    go (k+5) impl_State_rain [.ptr true [.int .i64 (r),.arr true (z1) (.r3 (l)),.arr true (z2) (.ints .i64 (m)),.arr true (z3) (.ints .i64 (t)),.arr true (z4) (.ints .i64 (b))],.int .i64 a]=some [.agg [.int .i64 (raS a l (m,t)).2.mi,.int .i64 0,.int .i64 0,.int .i64 0],.ptr true [.int .i64 (r),.arr true (z1) (.r3 (l)),.arr true (z2) (.ints .i64 ((raS a l (m,t)).1.1)),.arr true (z3) (.ints .i64 (t)),.arr true (z4) (.ints .i64 (b))]]:=by
  rw [qks]
  have ml:=F.ml
  have e:=quk k hk [] r z1 l z2 m z3 t z4 b z1 z2 z3 z4 r l m t b a ha F (k+4) 0 (by omega) (by have:=F.len; omega)
  rw [show ((0:Nat):Int)=0 from rfl,show q2o (part a l) 0=0 from rfl] at e
  simp (disch:=omega) only [wk,bit,nI,ml]
  exact e
theorem qvp (k:Nat)(hk:2000000≤k)(fu:List (Nat×Nat))(z1 z2 z3 z4:Bool)(r:Int)(l:List Cell)(m t b:List Int)(a:Int)(ha:0≤a∧a≤10000)(F:StF r l m t b)(y1 y2 y3 y4:Bool)(q1:List Cell)(q2 q3 q4:List Int)(p0 p1 p2 p3 p4:Int)(v1 v2 v3 v4:Bool): ∀ (N i:Nat),i≤l.length→l.length - i<N→
    lp (k+3) spec_l14Rain [] fu 4 (N) (q0x a (q2o (part a l) i) (i:Int) z1 l z2 m z3 t z4 b r y1 q1 y2 q2 y3 q3 y4 q4 p0 p1 p2 p3 p4 false l false (upto l.length i (raF a l m) (fun j=>m.getD j 0)) false t false b r)=some [.agg [.int .i64 (r),.arr true (false) (.r3 (l)),.arr true (false) (.ints .i64 ((raS a l (m,t)).1.1)),.arr true (false) (.ints .i64 (t)),.arr true (false) (.ints .i64 (b))],.agg [.int .i64 (raS a l (m,t)).2.mi,.int .i64 0,.int .i64 0,.int .i64 0]]
  | 0,i,hi,hN=>by omega
  | N+1,i,hi,hN=>by
    rw [qs0]
    have L:=F.len; have p:=qxj ha l i; have ps:=qxk ha l i; have ml:=F.ml; have ms:=F.msum; have f:=F.at i; have tl:=F.tl; have bl:=F.bl; have rr:=F.rr
    by_cases g:i<l.length
    · have IH:=qvp k hk fu z1 z2 z3 z4 r l m t b a ha F y1 y2 y3 y4 q1 q2 q3 q4 p0 p1 p2 p3 p4 v1 v2 v3 v4 N (i+1) (by omega) (by omega)
      rw [show q2o (part a l) (i+1)=q2o (part a l) i+part a l i from rfl] at IH
      have es:(upto l.length i (raF a l m) (fun j=>m.getD j 0)).set i (m.getD i 0+part a l i)=upto l.length (i+1) (raF a l m) (fun j=>m.getD j 0):=q3x _ _ _ _ _ rfl
      have eg:(upto l.length i (raF a l m) (fun j=>m.getD j 0)).getD i 0=m.getD i 0:=q3v g
      simp (disch:=omega) only [wk,bit,nI,q3w,qg3,eg,es,IH]
    · have:i=l.length:=by omega
      subst this
      have e1:isum (tab l.length (raF a l m))=isum m+q2o (part a l) l.length:=by rw [qql,q2p,qqk m,ml]
      have mem: ∀ x∈tab l.length (raF a l m),0≤x∧x≤1000000000000:=by
        intro x hx
        simp only [tab,List.mem_map] at hx
        obtain ⟨j,_,rfl⟩:=hx
        have f:=F.at j; have p:=qxj ha l j
        show 0≤m.getD j 0+part a l j∧m.getD j 0+part a l j≤_
        omega
      have es:=qgv (k+2) (by omega) false (tab l.length (raF a l m)) (by rw [q20]; omega) mem
      unfold raS
      by_cases h:isum m+q2o (part a l) l.length≤10000000
      · rw [if_pos h]
        simp (disch:=omega) only [wk,bit,nI,q3u,es,e1]
      · rw [if_neg h]
        simp (disch:=omega) only [wk,bit,nI,q3u,es,e1,qgu]
theorem qhc (k:Nat)(hk:2000000≤k)(z1 z2 z3 z4:Bool)(r:Int)(l:List Cell)(m t b:List Int)(a:Int)(ha:0≤a∧a≤10000)(F:StF r l m t b):
    go (k+4) spec_l14Rain [.agg [.int .i64 (r),.arr false (z1) (.r3 (l)),.arr false (z2) (.ints .i64 (m)),.arr false (z3) (.ints .i64 (t)),.arr false (z4) (.ints .i64 (b))],.int .i64 a]=some [.agg [.int .i64 (r),.arr true (false) (.r3 (l)),.arr true (false) (.ints .i64 ((raS a l (m,t)).1.1)),.arr true (false) (.ints .i64 (t)),.arr true (false) (.ints .i64 (b))],.agg [.int .i64 (raS a l (m,t)).2.mi,.int .i64 0,.int .i64 0,.int .i64 0]]:=by
  rw [qoc]
  have L:=F.len; have ml:=F.ml; have tl:=F.tl; have bl:=F.bl; have rr:=F.rr
  have e:=qvp k hk [] z1 z2 z3 z4 r l m t b a ha F true true true true [] [] [] [] 0 0 0 0 0 true true true true (k+3) 0 (by omega) (by omega)
  rw [show ((0:Nat):Int)=0 from rfl,show q2o (part a l) 0=0 from rfl,q3y m l.length ml] at e
  simp (disch:=omega) only [wk,bit,nI,qgu]
  exact e
end Go.Proofs.YtjfjniebmdafeaaGreatDoor
end
