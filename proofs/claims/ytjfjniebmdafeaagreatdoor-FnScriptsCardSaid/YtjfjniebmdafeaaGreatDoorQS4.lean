/- What the program's functions compute, and plain facts of it (part 4). No condition beyond those that each theorem states. -/
import Derived.Test.YtjfjniebmdafeaaGreatDoorQS3
set_option linter.unusedVariables false
set_option linter.unusedSimpArgs false
section
namespace Go.Proofs.YtjfjniebmdafeaaGreatDoor
open Go.Ev
set_option maxRecDepth 20000
theorem qw2 (o:Bool)(d0:D)(l:List D):(D.ptr o (d0::l)).cell 0=d0:=Eq.trans rfl rfl
theorem qw3 (o:Bool)(d0 d1:D)(l:List D):(D.ptr o (d0::d1::l)).cell 1=d1:=Eq.trans rfl rfl
theorem qw4 (o:Bool)(d0 d1 d2:D)(l:List D):(D.ptr o (d0::d1::d2::l)).cell 2=d2:=Eq.trans rfl rfl
theorem qw5 (o:Bool)(d0 d1 d2 d3:D)(l:List D):(D.ptr o (d0::d1::d2::d3::l)).cell 3=d3:=Eq.trans rfl rfl
theorem qw6 (o:Bool)(d0 d1 d2 d3 d4:D)(l:List D):(D.ptr o (d0::d1::d2::d3::d4::l)).cell 4=d4:=Eq.trans rfl rfl
def upto (L i:Nat)(f g:Nat→Int):List Int:=tab L (fun j=>if j<i then f j else g j)
theorem q2p (L i:Nat)(f g:Nat→Int):(upto L i f g).length=L:=q1r _ _
theorem q2o {L i:Nat}{f g:Nat→Int}(h:i<L):(upto L i f g).getD i 0=g i:=by
  unfold upto; rw [q1q h,if_neg (by omega)]
theorem q2q (L i:Nat)(f g:Nat→Int)(v:Int)(hv:v=f i):(upto L i f g).set i v=upto L (i+1) f g:=by
  unfold upto
  rw [q1u]
  refine q1p fun j hj=> ?_
  by_cases e:j=i
  · subst e; rw [if_pos rfl,if_pos (by omega),hv]
  · rw [if_neg e]
    by_cases e2:j<i
    · rw [if_pos e2,if_pos (by omega)]
    · rw [if_neg e2,if_neg (by omega)]
theorem q2r (m:List Int)(L:Nat)(h:m.length=L)(f:Nat→Int):upto L 0 f (fun j=>m.getD j 0)=m:=by
  subst h
  refine Eq.trans (q1p fun j hj=> ?_) (q1t m).symm
  rw [if_neg (by omega)]
theorem q2n (L:Nat)(f g:Nat→Int):upto L L f g=tab L f:=q1p fun j hj=>if_pos hj
theorem q11 {a:Int}(ha:0≤a∧a≤10000)(l:List Cell)(i:Nat):(0≤a*q2x (l.getD i zz3).2.1∧a*q2x (l.getD i zz3).2.1≤160000)∧Int.tdiv (a*q2x (l.getD i zz3).2.1) 16=part a l i:=by
  have w:=q2z (l.getD i zz3).2.1
  have h1:=Int.mul_nonneg ha.1 w.1
  have h2:a*q2x (l.getD i zz3).2.1≤a*16:=Int.mul_le_mul_of_nonneg_left w.2 ha.1
  exact ⟨⟨h1,by omega⟩,Int.tdiv_eq_ediv_of_nonneg h1⟩
theorem qeb (k:Nat)(hk:2000000≤k)(z1 z2 z3 z4:Bool)(r:Int)(l:List Cell)(m t b:List Int)(a:Int)(ha:0≤a∧a≤10000)(i:Nat)(hi:i<l.length)(hl:l.length≤128):
    go (k+4) impl_State_partOf [.agg [.int .i64 (r),.arr false (z1) (.r3 (l)),.arr false (z2) (.ints .i64 (m)),.arr false (z3) (.ints .i64 (t)),.arr false (z4) (.ints .i64 (b))],.int .i64 a,.int .i64 (i:Int)]=some [.int .i64 (part a l i)]:=by
  rw [qkl]
  have d:=q11 ha l i; have p:=qwj ha l i
  have e:=d.2
  simp (disch:=omega) only [wk,bit,nI,qda,e]
theorem qgv (k:Nat)(hk:2000000≤k)(l:List Cell)(a:Int)(ha:0≤a∧a≤10000)(i:Nat):
    go (k+3) spec_l14Part [.int .i64 a,.int .i64 (l.getD i zz3).2.1]=some [.int .i64 (part a l i)]:=by
  rw [qnk]
  have d:=q11 ha l i; have p:=qwj ha l i
  have e:=d.2
  simp (disch:=omega) only [wk,bit,nI,qfx,e]
theorem q1i {x:List Int}(h: ∀ v∈x,0≤v∧v≤1000000000000)(n:Nat):q1f (fun j=>x.getD j 0) n≤isum x:=by
  rw [qpv x]
  have nn: ∀ j,0≤x.getD j 0:=fun j=>by
    by_cases g:j<x.length
    · exact (h _ (qov g 0)).1
    · rw [qou (by omega)]; exact Int.le_refl 0
  have up: ∀ d,q1f (fun j=>x.getD j 0) n≤q1f (fun j=>x.getD j 0) (n+d):=by
    intro d
    induction d with
    | zero=>exact Int.le_refl _
    | succ d ih=>have:=nn (n+d); rw [show n+(d+1)=(n+d)+1 from rfl,q1f]; omega
  by_cases g:n≤x.length
  · have:=up (x.length - n)
    rwa [show n+(x.length - n)=x.length by omega] at this
  · have hi: ∀ d,q1f (fun j=>x.getD j 0) (x.length+d)=q1f (fun j=>x.getD j 0) x.length:=by
      intro d
      induction d with
      | zero=>rfl
      | succ d ih=>rw [show x.length+(d+1)=(x.length+d)+1 from rfl,q1f,ih,qou (by omega)]; omega
    have:=hi (n - x.length)
    rw [show x.length+(n - x.length)=n by omega] at this
    rw [this]; exact Int.le_refl _
abbrev raF (a:Int)(l:List Cell)(m:List Int)(j:Nat):Int:=m.getD j 0+part a l j
theorem qtp (k:Nat)(hk:2000000≤k)(fu:List (Nat×Nat))(a0:Int)(a1z:Bool)(a1:List Cell)(a2z:Bool)(a2:List Int)(a3z:Bool)(a3:List Int)(a4z:Bool)(a4:List Int)(z1 z2 z3 z4:Bool)(r:Int)(l:List Cell)(m t b:List Int)(a tot:Int)(ha:0≤a∧a≤10000)(F:StF r l m t b): ∀ (N i:Nat),i≤l.length→l.length - i<N→
    lp (k+4) impl_State_rain [(.ptr true [(.int .i64 (a0)),(.arr true (a1z) (.r3 (a1))),(.arr true (a2z) (.ints .i64 (a2))),(.arr true (a3z) (.ints .i64 (a3))),(.arr true (a4z) (.ints .i64 (a4)))])] fu 10 (N) (qys a tot (l.length:Int) (i:Int) z1 l z2 (upto l.length i (raF a l m) (fun j=>m.getD j 0)) z3 t z4 b r 0 0 0 0)=some [.agg [.int .i64 tot,.int .i64 0,.int .i64 0,.int .i64 0],.ptr true [.int .i64 (r),.arr true (z1) (.r3 (l)),.arr true (z2) (.ints .i64 (tab l.length (raF a l m))),.arr true (z3) (.ints .i64 (t)),.arr true (z4) (.ints .i64 (b))]]
  | 0,i,hi,hN=>by omega
  | N+1,i,hi,hN=>by
    rw [qq7]
    have L:=F.len; have f:=F.at i; have p:=qwj ha l i
    by_cases g:i<l.length
    · have IH:=qtp k hk fu a0 a1z a1 a2z a2 a3z a3 a4z a4 z1 z2 z3 z4 r l m t b a tot ha F N (i+1) (by omega) (by omega)
      have es:(upto l.length i (raF a l m) (fun j=>m.getD j 0)).set i (m.getD i 0+part a l i)=upto l.length (i+1) (raF a l m) (fun j=>m.getD j 0):=q2q _ _ _ _ _ rfl
      have eg:(upto l.length i (raF a l m) (fun j=>m.getD j 0)).getD i 0=m.getD i 0:=q2o g
      simp (disch:=omega) only [wk,bit,nI,q2p,qeb,eg,es,IH]
    · have:i=l.length:=by omega
      subst this
      simp (disch:=omega) only [wk,bit,nI,q2n]
theorem qtq (k:Nat)(hk:2000000≤k)(fu:List (Nat×Nat))(a0:Int)(a1z:Bool)(a1:List Cell)(a2z:Bool)(a2:List Int)(a3z:Bool)(a3:List Int)(a4z:Bool)(a4:List Int)(z1 z2 z3 z4:Bool)(r:Int)(l:List Cell)(m t b:List Int)(a:Int)(ha:0≤a∧a≤10000)(F:StF r l m t b): ∀ (N i:Nat),i≤l.length→l.length - i<N→
    lp (k+4) impl_State_rain [(.ptr true [(.int .i64 (a0)),(.arr true (a1z) (.r3 (a1))),(.arr true (a2z) (.ints .i64 (a2))),(.arr true (a3z) (.ints .i64 (a3))),(.arr true (a4z) (.ints .i64 (a4)))])] fu 3 (N) (qyt a (q1f (part a l) i) (l.length:Int) (i:Int) z1 l z2 m z3 t z4 b r 0 0 0 0)=some [.agg [.int .i64 (raS a l (m,t)).2.mi,.int .i64 0,.int .i64 0,.int .i64 0],.ptr true [.int .i64 (r),.arr true (z1) (.r3 (l)),.arr true (z2) (.ints .i64 ((raS a l (m,t)).1.1)),.arr true (z3) (.ints .i64 (t)),.arr true (z4) (.ints .i64 (b))]]
  | 0,i,hi,hN=>by omega
  | N+1,i,hi,hN=>by
    rw [qq8]
    have L:=F.len; have p:=qwj ha l i; have ps:=qwk ha l i; have ml:=F.ml; have ms:=F.msum
    by_cases g:i<l.length
    · have IH:=qtq k hk fu a0 a1z a1 a2z a2 a3z a3 a4z a4 z1 z2 z3 z4 r l m t b a ha F N (i+1) (by omega) (by omega)
      rw [show q1f (part a l) (i+1)=q1f (part a l) i+part a l i from rfl] at IH
      simp (disch:=omega) only [wk,bit,nI,qeb,IH]
    · have:i=l.length:=by omega
      subst this
      have e10:=qtp k hk fu a0 a1z a1 a2z a2 a3z a3 a4z a4 z1 z2 z3 z4 r l m t b a (q1f (part a l) l.length) ha F (k+4) 0 (by omega) (by omega)
      rw [q2r m l.length ml] at e10
      rw [show ((0:Nat):Int)=0 from rfl] at e10
      have es:=qel (k+3) (by omega) z2 m (by omega) F.mmem
      unfold raS
      by_cases h:isum m+q1f (part a l) l.length≤10000000
      · rw [if_pos h]
        simp (disch:=omega) only [wk,bit,nI,es,ml]
        exact e10
      · rw [if_neg h]
        simp (disch:=omega) only [wk,bit,nI,es]
theorem qw0 (a:Int)(l:List Cell)(s:S2):(raS a l s).1.2=s.2:=by unfold raS; split<;>rfl
theorem qw1 (a:Int)(l:List Cell)(s:S2):(raS a l s).2.mo=0∧(raS a l s).2.ti=0∧(raS a l s).2.ou=0:=by unfold raS; split<;>exact ⟨rfl,rfl,rfl⟩
theorem qec (k:Nat)(hk:2000000≤k)(z1 z2 z3 z4:Bool)(r:Int)(l:List Cell)(m t b:List Int)(a:Int)(ha:0≤a∧a≤10000)(F:StF r l m t b):
    go (k+5) impl_State_rain [.ptr true [.int .i64 (r),.arr true (z1) (.r3 (l)),.arr true (z2) (.ints .i64 (m)),.arr true (z3) (.ints .i64 (t)),.arr true (z4) (.ints .i64 (b))],.int .i64 a]=some [.agg [.int .i64 (raS a l (m,t)).2.mi,.int .i64 0,.int .i64 0,.int .i64 0],.ptr true [.int .i64 (r),.arr true (z1) (.r3 (l)),.arr true (z2) (.ints .i64 ((raS a l (m,t)).1.1)),.arr true (z3) (.ints .i64 (t)),.arr true (z4) (.ints .i64 (b))]]:=by
  rw [qkm]
  have ml:=F.ml
  have e:=qtq k hk [] r z1 l z2 m z3 t z4 b z1 z2 z3 z4 r l m t b a ha F (k+4) 0 (by omega) (by have:=F.len; omega)
  rw [show ((0:Nat):Int)=0 from rfl,show q1f (part a l) 0=0 from rfl] at e
  simp (disch:=omega) only [wk,bit,nI,ml]
  exact e
theorem qur (k:Nat)(hk:2000000≤k)(fu:List (Nat×Nat))(z1 z2 z3 z4:Bool)(r:Int)(l:List Cell)(m t b:List Int)(a:Int)(ha:0≤a∧a≤10000)(F:StF r l m t b)(y1 y2 y3 y4:Bool)(q1:List Cell)(q2 q3 q4:List Int)(p0 p1 p2 p3 p4:Int)(v1 v2 v3 v4:Bool): ∀ (N i:Nat),i≤l.length→l.length - i<N→
    lp (k+3) spec_l14Rain [] fu 4 (N) (qzq a (q1f (part a l) i) (i:Int) z1 l z2 m z3 t z4 b r y1 q1 y2 q2 y3 q3 y4 q4 p0 p1 p2 p3 p4 false l false (upto l.length i (raF a l m) (fun j=>m.getD j 0)) false t false b r)=some [.agg [.int .i64 (r),.arr true (false) (.r3 (l)),.arr true (false) (.ints .i64 ((raS a l (m,t)).1.1)),.arr true (false) (.ints .i64 (t)),.arr true (false) (.ints .i64 (b))],.agg [.int .i64 (raS a l (m,t)).2.mi,.int .i64 0,.int .i64 0,.int .i64 0]]
  | 0,i,hi,hN=>by omega
  | N+1,i,hi,hN=>by
    rw [qr5]
    have L:=F.len; have p:=qwj ha l i; have ps:=qwk ha l i; have ml:=F.ml; have ms:=F.msum; have f:=F.at i; have tl:=F.tl; have bl:=F.bl; have rr:=F.rr
    by_cases g:i<l.length
    · have IH:=qur k hk fu z1 z2 z3 z4 r l m t b a ha F y1 y2 y3 y4 q1 q2 q3 q4 p0 p1 p2 p3 p4 v1 v2 v3 v4 N (i+1) (by omega) (by omega)
      rw [show q1f (part a l) (i+1)=q1f (part a l) i+part a l i from rfl] at IH
      have es:(upto l.length i (raF a l m) (fun j=>m.getD j 0)).set i (m.getD i 0+part a l i)=upto l.length (i+1) (raF a l m) (fun j=>m.getD j 0):=q2q _ _ _ _ _ rfl
      have eg:(upto l.length i (raF a l m) (fun j=>m.getD j 0)).getD i 0=m.getD i 0:=q2o g
      simp (disch:=omega) only [wk,bit,nI,q2p,qgv,eg,es,IH]
    · have:i=l.length:=by omega
      subst this
      have e1:isum (tab l.length (raF a l m))=isum m+q1f (part a l) l.length:=by rw [qpw,q1g,qpv m,ml]
      have mem: ∀ x∈tab l.length (raF a l m),0≤x∧x≤1000000000000:=by
        intro x hx
        simp only [tab,List.mem_map] at hx
        obtain ⟨j,_,rfl⟩:=hx
        have f:=F.at j; have p:=qwj ha l j
        show 0≤m.getD j 0+part a l j∧m.getD j 0+part a l j≤_
        omega
      have es:=qgm (k+2) (by omega) false (tab l.length (raF a l m)) (by rw [q1r]; omega) mem
      unfold raS
      by_cases h:isum m+q1f (part a l) l.length≤10000000
      · rw [if_pos h]
        simp (disch:=omega) only [wk,bit,nI,q2n,es,e1]
      · rw [if_neg h]
        simp (disch:=omega) only [wk,bit,nI,q2n,es,e1,qgk]
theorem qg6 (k:Nat)(hk:2000000≤k)(z1 z2 z3 z4:Bool)(r:Int)(l:List Cell)(m t b:List Int)(a:Int)(ha:0≤a∧a≤10000)(F:StF r l m t b):
    go (k+4) spec_l14Rain [.agg [.int .i64 (r),.arr false (z1) (.r3 (l)),.arr false (z2) (.ints .i64 (m)),.arr false (z3) (.ints .i64 (t)),.arr false (z4) (.ints .i64 (b))],.int .i64 a]=some [.agg [.int .i64 (r),.arr true (false) (.r3 (l)),.arr true (false) (.ints .i64 ((raS a l (m,t)).1.1)),.arr true (false) (.ints .i64 (t)),.arr true (false) (.ints .i64 (b))],.agg [.int .i64 (raS a l (m,t)).2.mi,.int .i64 0,.int .i64 0,.int .i64 0]]:=by
  rw [qnl]
  have L:=F.len; have ml:=F.ml; have tl:=F.tl; have bl:=F.bl; have rr:=F.rr
  have e:=qur k hk [] z1 z2 z3 z4 r l m t b a ha F true true true true [] [] [] [] 0 0 0 0 0 true true true true (k+3) 0 (by omega) (by omega)
  rw [show ((0:Nat):Int)=0 from rfl,show q1f (part a l) 0=0 from rfl,q2r m l.length ml] at e
  simp (disch:=omega) only [wk,bit,nI,qgk]
  exact e
end Go.Proofs.YtjfjniebmdafeaaGreatDoor
end
section
namespace Go.Proofs.YtjfjniebmdafeaaGreatDoor
open Go.Ev
set_option maxRecDepth 20000
abbrev soF (a:Int)(l:List Cell)(m:List Int)(j:Nat):Int:=m.getD j 0 - soX a l m j
abbrev soG (a:Int)(l:List Cell)(m t:List Int)(j:Nat):Int:=t.getD j 0 - soY a l m t j
theorem qtr (k:Nat)(hk:2000000≤k)(fu:List (Nat×Nat))(a0:Int)(a1z:Bool)(a1:List Cell)(a2z:Bool)(a2:List Int)(a3z:Bool)(a3:List Int)(a4z:Bool)(a4:List Int)(z1 z2 z3 z4:Bool)(r:Int)(l:List Cell)(m t b:List Int)(a:Int)(ha:0≤a∧a≤10000)(F:StF r l m t b)(p0 p1 p2 p3:Int): ∀ (N i:Nat),i≤l.length→l.length - i<N→
    lp (k+4) impl_State_soak [(.ptr true [(.int .i64 (a0)),(.arr true (a1z) (.r3 (a1))),(.arr true (a2z) (.ints .i64 (a2))),(.arr true (a3z) (.ints .i64 (a3))),(.arr true (a4z) (.ints .i64 (a4)))])] fu 3 (N) (qyu a (l.length:Int) (i:Int) z1 l z2 (upto l.length i (soF a l m) (fun j=>m.getD j 0)) z3 (upto l.length i (soG a l m t) (fun j=>t.getD j 0)) z4 b r p0 p1 p2 p3 0 (q1f (soX a l m) i) 0 (q1f (soY a l m t) i))=some [.agg [.int .i64 0,.int .i64 (q1f (soX a l m) l.length),.int .i64 0,.int .i64 (q1f (soY a l m t) l.length)],.ptr true [.int .i64 (r),.arr true (z1) (.r3 (l)),.arr true (z2) (.ints .i64 (tab l.length (soF a l m))),.arr true (z3) (.ints .i64 (tab l.length (soG a l m t))),.arr true (z4) (.ints .i64 (b))]]
  | 0,i,hi,hN=>by omega
  | N+1,i,hi,hN=>by
    rw [qq9]
    have L:=F.len; have f:=F.at i; have p:=qwj ha l i
    by_cases g:i<l.length
    · have IH:=qtr k hk fu a0 a1z a1 a2z a2 a3z a3 a4z a4 z1 z2 z3 z4 r l m t b a ha F p0 p1 p2 p3 N (i+1) (by omega) (by omega)
      rw [show q1f (soX a l m) (i+1)=q1f (soX a l m) i+soX a l m i from rfl,show q1f (soY a l m t) (i+1)=q1f (soY a l m t) i+soY a l m t i from rfl] at IH
      have s1:(upto l.length i (soF a l m) (fun j=>m.getD j 0)).set i (m.getD i 0 - soX a l m i)=upto l.length (i+1) (soF a l m) (fun j=>m.getD j 0):=q2q _ _ _ _ _ rfl
      have s2:(upto l.length i (soG a l m t) (fun j=>t.getD j 0)).set i (t.getD i 0 - soY a l m t i)=upto l.length (i+1) (soG a l m t) (fun j=>t.getD j 0):=q2q _ _ _ _ _ rfl
      have g1:(upto l.length i (soF a l m) (fun j=>m.getD j 0)).getD i 0=m.getD i 0:=q2o g
      have g2:(upto l.length i (soG a l m t) (fun j=>t.getD j 0)).getD i 0=t.getD i 0:=q2o g
      have x1:=q0e F ha i; have y1:=(q0f F ha i).1
      have q:=q0g F ha i
      have q1:=q0g F ha l.length
      have ms:=F.msum; have ts:=F.tle
      have d1:=q1i F.mmem i; have d2:=q1i F.tmem i
      have ex:min (part a l i) (m.getD i 0)=soX a l m i:=Int.min_comm _ _
      have ey:qz4 (t.getD i 0) (soX a l m i) (m.getD i 0)=soY a l m t i:=rfl
      simp (disch:=omega) only [wk,bit,nI,q2p,qeb,g1,g2,ex,qc2,ey,s1,s2,IH]
    · have:i=l.length:=by omega
      subst this
      simp (disch:=omega) only [wk,bit,nI,q2n]
theorem qej (k:Nat)(hk:2000000≤k)(z1 z2 z3 z4:Bool)(r:Int)(l:List Cell)(m t b:List Int)(a:Int)(ha:0≤a∧a≤10000)(F:StF r l m t b):
    go (k+5) impl_State_soak [.ptr true [.int .i64 (r),.arr true (z1) (.r3 (l)),.arr true (z2) (.ints .i64 (m)),.arr true (z3) (.ints .i64 (t)),.arr true (z4) (.ints .i64 (b))],.int .i64 a]=some [.agg [.int .i64 0,.int .i64 (soS a l (m,t)).2.mo,.int .i64 0,.int .i64 (soS a l (m,t)).2.ou],.ptr true [.int .i64 (r),.arr true (z1) (.r3 (l)),.arr true (z2) (.ints .i64 ((soS a l (m,t)).1.1)),.arr true (z3) (.ints .i64 ((soS a l (m,t)).1.2)),.arr true (z4) (.ints .i64 (b))]]:=by
  rw [qkr]
  have ml:=F.ml; have tl:=F.tl
  have e:=qtr k hk [] r z1 l z2 m z3 t z4 b z1 z2 z3 z4 r l m t b a ha F 0 0 0 0 (k+4) 0 (by omega) (by have:=F.len; omega)
  rw [show ((0:Nat):Int)=0 from rfl,show q1f (soX a l m) 0=0 from rfl,show q1f (soY a l m t) 0=0 from rfl,q2r m l.length ml,q2r t l.length tl] at e
  simp (disch:=omega) only [wk,bit,nI,ml]
  exact e
theorem qus (k:Nat)(hk:2000000≤k)(fu:List (Nat×Nat))(z1 z2 z3 z4:Bool)(r:Int)(l:List Cell)(m t b:List Int)(a:Int)(ha:0≤a∧a≤10000)(F:StF r l m t b)(y1 y2 y3 y4:Bool)(q1:List Cell)(q2 q3 q4:List Int)(p0 p1 p2 p3 p4:Int): ∀ (N i:Nat),i≤l.length→l.length - i<N→
    lp (k+3) spec_l14Soak [] fu 4 (N) (qzr a (i:Int) z1 l z2 m z3 t z4 b r y1 q1 y2 q2 y3 q3 y4 q4 p0 p1 p2 p3 p4 false l false (upto l.length i (soF a l m) (fun j=>m.getD j 0)) false (upto l.length i (soG a l m t) (fun j=>t.getD j 0)) false b r 0 (q1f (soX a l m) i) 0 (q1f (soY a l m t) i))=some [.agg [.int .i64 (r),.arr true (false) (.r3 (l)),.arr true (false) (.ints .i64 (tab l.length (soF a l m))),.arr true (false) (.ints .i64 (tab l.length (soG a l m t))),.arr true (false) (.ints .i64 (b))],.agg [.int .i64 0,.int .i64 (q1f (soX a l m) l.length),.int .i64 0,.int .i64 (q1f (soY a l m t) l.length)]]
  | 0,i,hi,hN=>by omega
  | N+1,i,hi,hN=>by
    rw [qr6]
    have L:=F.len; have f:=F.at i; have p:=qwj ha l i; have ml:=F.ml; have tl:=F.tl
    by_cases g:i<l.length
    · have IH:=qus k hk fu z1 z2 z3 z4 r l m t b a ha F y1 y2 y3 y4 q1 q2 q3 q4 p0 p1 p2 p3 p4 N (i+1) (by omega) (by omega)
      rw [show q1f (soX a l m) (i+1)=q1f (soX a l m) i+soX a l m i from rfl,show q1f (soY a l m t) (i+1)=q1f (soY a l m t) i+soY a l m t i from rfl] at IH
      have s1:(upto l.length i (soF a l m) (fun j=>m.getD j 0)).set i (m.getD i 0 - soX a l m i)=upto l.length (i+1) (soF a l m) (fun j=>m.getD j 0):=q2q _ _ _ _ _ rfl
      have s2:(upto l.length i (soG a l m t) (fun j=>t.getD j 0)).set i (t.getD i 0 - soY a l m t i)=upto l.length (i+1) (soG a l m t) (fun j=>t.getD j 0):=q2q _ _ _ _ _ rfl
      have g1:(upto l.length i (soF a l m) (fun j=>m.getD j 0)).getD i 0=m.getD i 0:=q2o g
      have g2:(upto l.length i (soG a l m t) (fun j=>t.getD j 0)).getD i 0=t.getD i 0:=q2o g
      have x1:=q0e F ha i; have y1:=(q0f F ha i).1
      have q:=q0g F ha i
      have ms:=F.msum; have ts:=F.tle
      have d1:=q1i F.mmem i; have d2:=q1i F.tmem i
      have ex:min (m.getD i 0) (part a l i)=soX a l m i:=rfl
      have ey:qz4 (t.getD i 0) (soX a l m i) (m.getD i 0)=soY a l m t i:=rfl
      simp (disch:=omega) only [wk,bit,nI,q2p,qgv,g1,g2,imin,ex,qft,ey,s1,s2,IH]
    · have:i=l.length:=by omega
      subst this
      simp (disch:=omega) only [wk,bit,nI,q2n]
theorem qg8 (k:Nat)(hk:2000000≤k)(z1 z2 z3 z4:Bool)(r:Int)(l:List Cell)(m t b:List Int)(a:Int)(ha:0≤a∧a≤10000)(F:StF r l m t b):
    go (k+4) spec_l14Soak [.agg [.int .i64 (r),.arr false (z1) (.r3 (l)),.arr false (z2) (.ints .i64 (m)),.arr false (z3) (.ints .i64 (t)),.arr false (z4) (.ints .i64 (b))],.int .i64 a]=some [.agg [.int .i64 (r),.arr true (false) (.r3 (l)),.arr true (false) (.ints .i64 ((soS a l (m,t)).1.1)),.arr true (false) (.ints .i64 ((soS a l (m,t)).1.2)),.arr true (false) (.ints .i64 (b))],.agg [.int .i64 0,.int .i64 (soS a l (m,t)).2.mo,.int .i64 0,.int .i64 (soS a l (m,t)).2.ou]]:=by
  rw [qnm]
  have L:=F.len; have ml:=F.ml; have tl:=F.tl; have bl:=F.bl; have rr:=F.rr
  have e:=qus k hk [] z1 z2 z3 z4 r l m t b a ha F true true true true [] [] [] [] 0 0 0 0 0 (k+3) 0 (by omega) (by omega)
  rw [show ((0:Nat):Int)=0 from rfl,show q1f (soX a l m) 0=0 from rfl,show q1f (soY a l m t) 0=0 from rfl,q2r m l.length ml,q2r t l.length tl] at e
  simp (disch:=omega) only [wk,bit,nI,qgk]
  exact e
abbrev deF (a:Int)(t:List Int)(j:Nat):Int:=t.getD j 0 - deX a t j
theorem q1y {r:Int}{l:List Cell}{m t b:List Int}(F:StF r l m t b){a:Int}(ha:0≤a∧a≤1000)(i:Nat):(0≤t.getD i 0*a∧t.getD i 0*a≤10000000000000)∧Int.tdiv (t.getD i 0*a) 1000=deX a t i:=by
  have f:=F.at i
  have h1:=Int.mul_nonneg f.2.2.1 ha.1
  have h2:t.getD i 0*a≤t.getD i 0*1000:=Int.mul_le_mul_of_nonneg_left ha.2 f.2.2.1
  exact ⟨⟨h1,by omega⟩,Int.tdiv_eq_ediv_of_nonneg h1⟩
theorem qik {r:Int}{l:List Cell}{m t b:List Int}(F:StF r l m t b){a:Int}(ha:0≤a∧a≤1000)(n:Nat):0≤q1f (deX a t) n∧q1f (deX a t) n≤q1f (fun j=>t.getD j 0) n:=
  ⟨q1j n fun j _=>(qij F ha j).1,q1h n fun j _=>(qij F ha j).2⟩
theorem qtm (k:Nat)(hk:2000000≤k)(fu:List (Nat×Nat))(a0:Int)(a1z:Bool)(a1:List Cell)(a2z:Bool)(a2:List Int)(a3z:Bool)(a3:List Int)(a4z:Bool)(a4:List Int)(z1 z2 z3 z4:Bool)(r:Int)(l:List Cell)(m t b:List Int)(a:Int)(ha:0≤a∧a≤1000)(F:StF r l m t b)(p0 p1 p2 p3:Int): ∀ (N i:Nat),i≤l.length→l.length - i<N→
    lp k impl_State_decay [(.ptr true [(.int .i64 (a0)),(.arr true (a1z) (.r3 (a1))),(.arr true (a2z) (.ints .i64 (a2))),(.arr true (a3z) (.ints .i64 (a3))),(.arr true (a4z) (.ints .i64 (a4)))])] fu 3 (N) (qyl a (l.length:Int) (i:Int) z1 l z2 m z3 (upto l.length i (deF a t) (fun j=>t.getD j 0)) z4 b r p0 p1 p2 p3 0 0 0 (q1f (deX a t) i))=some [.agg [.int .i64 0,.int .i64 0,.int .i64 0,.int .i64 (q1f (deX a t) l.length)],.ptr true [.int .i64 (r),.arr true (z1) (.r3 (l)),.arr true (z2) (.ints .i64 (m)),.arr true (z3) (.ints .i64 (tab l.length (deF a t))),.arr true (z4) (.ints .i64 (b))]]
  | 0,i,hi,hN=>by omega
  | N+1,i,hi,hN=>by
    rw [qq0]
    have L:=F.len; have f:=F.at i; have d:=q1y F ha i
    by_cases g:i<l.length
    · have IH:=qtm k hk fu a0 a1z a1 a2z a2 a3z a3 a4z a4 z1 z2 z3 z4 r l m t b a ha F p0 p1 p2 p3 N (i+1) (by omega) (by omega)
      rw [show q1f (deX a t) (i+1)=q1f (deX a t) i+deX a t i from rfl] at IH
      have s2:(upto l.length i (deF a t) (fun j=>t.getD j 0)).set i (t.getD i 0 - deX a t i)=upto l.length (i+1) (deF a t) (fun j=>t.getD j 0):=q2q _ _ _ _ _ rfl
      have g2:(upto l.length i (deF a t) (fun j=>t.getD j 0)).getD i 0=t.getD i 0:=q2o g
      have x1:=qij F ha i; have q:=qik F ha i; have ts:=F.tle; have d2:=q1i F.tmem i
      have ed:=d.2
      simp (disch:=omega) only [wk,bit,nI,q2p,g2,ed,s2,IH]
    · have:i=l.length:=by omega
      subst this
      simp (disch:=omega) only [wk,bit,nI,q2n]
theorem qdq (k:Nat)(hk:2000000≤k)(z1 z2 z3 z4:Bool)(r:Int)(l:List Cell)(m t b:List Int)(a:Int)(ha:0≤a∧a≤1000)(F:StF r l m t b):
    go (k+1) impl_State_decay [.ptr true [.int .i64 (r),.arr true (z1) (.r3 (l)),.arr true (z2) (.ints .i64 (m)),.arr true (z3) (.ints .i64 (t)),.arr true (z4) (.ints .i64 (b))],.int .i64 a]=some [.agg [.int .i64 0,.int .i64 0,.int .i64 0,.int .i64 (deS a l (m,t)).2.ou],.ptr true [.int .i64 (r),.arr true (z1) (.r3 (l)),.arr true (z2) (.ints .i64 (m)),.arr true (z3) (.ints .i64 ((deS a l (m,t)).1.2)),.arr true (z4) (.ints .i64 (b))]]:=by
  rw [qkd]
  have ml:=F.ml; have tl:=F.tl
  have e:=qtm k hk [] r z1 l z2 m z3 t z4 b z1 z2 z3 z4 r l m t b a ha F 0 0 0 0 (k+0) 0 (by omega) (by have:=F.len; omega)
  rw [show ((0:Nat):Int)=0 from rfl,show q1f (deX a t) 0=0 from rfl,q2r t l.length tl] at e
  simp (disch:=omega) only [wk,bit,nI,tl]
  exact e
theorem quh (k:Nat)(hk:2000000≤k)(fu:List (Nat×Nat))(z1 z2 z3 z4:Bool)(r:Int)(l:List Cell)(m t b:List Int)(a:Int)(ha:0≤a∧a≤1000)(F:StF r l m t b)(y1 y2 y3 y4:Bool)(q1:List Cell)(q2 q3 q4:List Int)(p0 p1 p2 p3 p4:Int): ∀ (N i:Nat),i≤l.length→l.length - i<N→
    lp (k+2) spec_l15Decay [] fu 4 (N) (qzs a (i:Int) z1 l z2 m z3 t z4 b r y1 q1 y2 q2 y3 q3 y4 q4 p0 p1 p2 p3 p4 false l false m false (upto l.length i (deF a t) (fun j=>t.getD j 0)) false b r 0 0 0 (q1f (deX a t) i))=some [.agg [.int .i64 (r),.arr true (false) (.r3 (l)),.arr true (false) (.ints .i64 (m)),.arr true (false) (.ints .i64 (tab l.length (deF a t))),.arr true (false) (.ints .i64 (b))],.agg [.int .i64 0,.int .i64 0,.int .i64 0,.int .i64 (q1f (deX a t) l.length)]]
  | 0,i,hi,hN=>by omega
  | N+1,i,hi,hN=>by
    rw [qr7]
    have L:=F.len; have f:=F.at i; have d:=q1y F ha i; have tl:=F.tl
    by_cases g:i<l.length
    · have IH:=quh k hk fu z1 z2 z3 z4 r l m t b a ha F y1 y2 y3 y4 q1 q2 q3 q4 p0 p1 p2 p3 p4 N (i+1) (by omega) (by omega)
      rw [show q1f (deX a t) (i+1)=q1f (deX a t) i+deX a t i from rfl] at IH
      have s2:(upto l.length i (deF a t) (fun j=>t.getD j 0)).set i (t.getD i 0 - deX a t i)=upto l.length (i+1) (deF a t) (fun j=>t.getD j 0):=q2q _ _ _ _ _ rfl
      have g2:(upto l.length i (deF a t) (fun j=>t.getD j 0)).getD i 0=t.getD i 0:=q2o g
      have x1:=qij F ha i; have q:=qik F ha i; have ts:=F.tle; have d2:=q1i F.tmem i
      have ed:=d.2
      simp (disch:=omega) only [wk,bit,nI,q2p,g2,ed,s2,IH]
    · have:i=l.length:=by omega
      subst this
      simp (disch:=omega) only [wk,bit,nI,q2n]
theorem qf4 (k:Nat)(hk:2000000≤k)(z1 z2 z3 z4:Bool)(r:Int)(l:List Cell)(m t b:List Int)(a:Int)(ha:0≤a∧a≤1000)(F:StF r l m t b):
    go (k+3) spec_l15Decay [.agg [.int .i64 (r),.arr false (z1) (.r3 (l)),.arr false (z2) (.ints .i64 (m)),.arr false (z3) (.ints .i64 (t)),.arr false (z4) (.ints .i64 (b))],.int .i64 a]=some [.agg [.int .i64 (r),.arr true (false) (.r3 (l)),.arr true (false) (.ints .i64 (m)),.arr true (false) (.ints .i64 ((deS a l (m,t)).1.2)),.arr true (false) (.ints .i64 (b))],.agg [.int .i64 0,.int .i64 0,.int .i64 0,.int .i64 (deS a l (m,t)).2.ou]]:=by
  rw [qnn]
  have L:=F.len; have ml:=F.ml; have tl:=F.tl; have bl:=F.bl; have rr:=F.rr
  have e:=quh k hk [] z1 z2 z3 z4 r l m t b a ha F true true true true [] [] [] [] 0 0 0 0 0 (k+2) 0 (by omega) (by omega)
  rw [show ((0:Nat):Int)=0 from rfl,show q1f (deX a t) 0=0 from rfl,q2r t l.length tl] at e
  simp (disch:=omega) only [wk,bit,nI,qgk]
  exact e
end Go.Proofs.YtjfjniebmdafeaaGreatDoor
end
section
namespace Go.Proofs.YtjfjniebmdafeaaGreatDoor
open Go.Ev
set_option maxRecDepth 20000
theorem tnz:Int.toNat 0=0:=Eq.trans rfl rfl
theorem qef (k:Nat)(hk:2000000≤k)(z1 z2 z3 z4:Bool)(r:Int)(l:List Cell)(m t b:List Int)(i:Nat)(x:Int)(d0 d1 d2 d3:Int)(h1:i<m.length)(h2:i<t.length)(hl:m.length≤1048576)(hx:0≤x∧x≤m.getD i 0)(hm:m.getD i 0≤10000000)(ht:0≤t.getD i 0∧t.getD i 0≤10000000000)(hd:0≤d1∧d1≤1000000000000)(hd3:0≤d3∧d3≤1000000000000):
    go (k+3) impl_State_remove [.ptr true [.int .i64 (r),.arr true (z1) (.r3 (l)),.arr true (z2) (.ints .i64 (m)),.arr true (z3) (.ints .i64 (t)),.arr true (z4) (.ints .i64 (b))],.int .i64 (i:Int),.int .i64 x,.ptr true [.int .i64 d0,.int .i64 d1,.int .i64 d2,.int .i64 d3]]=
      some [.ptr true [.int .i64 (r),.arr true (z1) (.r3 (l)),.arr true (z2) (.ints .i64 (m.set i (m.getD i 0 - x))),.arr true (z3) (.ints .i64 (t.set i (t.getD i 0 - qz4 (t.getD i 0) x (m.getD i 0)))),.arr true (z4) (.ints .i64 (b))],.ptr true [.int .i64 d0,.int .i64 (d1+x),.int .i64 d2,.int .i64 (d3+qz4 (t.getD i 0) x (m.getD i 0))]]:=by
  rw [qko]
  have s:=qz6 (t.getD i 0) x (m.getD i 0)
  simp (disch:=omega) only [wk,bit,nI,qc2]
theorem q1z {x o:Int}(hx:0≤x∧x≤10000000)(ho:0≤o∧o≤250):(0≤x*o∧x*o≤2500000000)∧Int.tdiv (x*o) 1000=x*o / 1000:=by
  have h1:=Int.mul_nonneg hx.1 ho.1
  have h2:x*o≤x*250:=Int.mul_le_mul_of_nonneg_left ho.2 hx.1
  exact ⟨⟨h1,by omega⟩,Int.tdiv_eq_ediv_of_nonneg h1⟩
abbrev ldD (x:Ld):D:=.agg [.int .i64 x.mi,.int .i64 x.mo,.int .i64 x.ti,.int .i64 x.ou]
theorem qdk (k:Nat)(hk:2000000≤k)(z1 z2 z3 z4:Bool)(r:Int)(l:List Cell)(m t b:List Int)(F:StF r l m t b)(a c o:Int)(ha:0≤a∧a≤10000)(hc:0≤c∧c≤1000)(ho:0≤o∧o≤250):
    go (k+4) impl_State_border [.ptr true [.int .i64 (r),.arr true (z1) (.r3 (l)),.arr true (z2) (.ints .i64 (m)),.arr true (z3) (.ints .i64 (t)),.arr true (z4) (.ints .i64 (b))],.agg [.int .i64 a,.int .i64 c,.int .i64 o]]=
      some [ldD (boS a c o (m,t)).2,.ptr true [.int .i64 (r),.arr true (z1) (.r3 (l)),.arr true (z2) (.ints .i64 ((boS a c o (m,t)).1.1)),.arr true (z3) (.ints .i64 ((boS a c o (m,t)).1.2)),.arr true (z4) (.ints .i64 (b))]]:=by
  rw [qkb]
  have L:=F.len; have ml:=F.ml; have tl:=F.tl
  have f:=F.at (m.length - 1)
  have d:=q1z ⟨f.1,f.2.1⟩ ho
  have ed:Int.tdiv (m.getD (m.length - 1) 0*o) 1000=boX o m:=d.2
  have G:=qbw F ho
  have bx:=qby F ho; have bY:=qbz F ho; have ip:=qpf ha hc
  have eR:=qef k (by omega) z1 z2 z3 z4 r l m t b (m.length - 1) (boX o m) 0 0 0 0 (by omega) (by omega) (by omega) bx f.2.1 ⟨f.2.2.1,by omega⟩ (by omega) (by omega)
  rw [show qz4 (t.getD (m.length - 1) 0) (boX o m) (m.getD (m.length - 1) 0)=boY o m t from rfl] at eR
  unfold boS
  change StF r l (m.set (m.length - 1) (m.getD (m.length - 1) 0 - boX o m)) (t.set (m.length - 1) (t.getD (m.length - 1) 0 - boY o m t)) b∧_ at G
  rw [show bo1 o (m,t)=(m.set (m.length - 1) (m.getD (m.length - 1) 0 - boX o m),t.set (m.length - 1) (t.getD (m.length - 1) 0 - boY o m t)) from rfl] at G ⊢
  generalize m.set (m.length - 1) (m.getD (m.length - 1) 0 - boX o m)=M at*
  generalize t.set (m.length - 1) (t.getD (m.length - 1) 0 - boY o m t)=T at*
  obtain ⟨G,g1,g2⟩:=G
  have Ml:=G.ml; have Tl:=G.tl; have Mf:=G.at 0; have Ms:=G.msum
  have eS:=qel (k+2) (by omega) z2 M (by omega) G.mmem
  by_cases h:isum M+a≤10000000
  · rw [if_pos h]
    simp (disch:=omega) only [wk,bit,nI,qhd,ed,eR,qw2,qw3,qw4,qw5,qw6,Int.zero_add,eS,tnz]
    rfl
  · rw [if_neg h]
    simp (disch:=omega) only [wk,bit,nI,qhd,ed,eR,qw2,qw3,qw4,qw5,qw6,Int.zero_add,eS]
theorem qf3 (k:Nat)(hk:2000000≤k)(z1 z2 z3 z4:Bool)(r:Int)(l:List Cell)(m t b:List Int)(F:StF r l m t b)(a c o:Int)(ha:0≤a∧a≤10000)(hc:0≤c∧c≤1000)(ho:0≤o∧o≤250):
    go (k+3) spec_l13Apply [.agg [.int .i64 (r),.arr false (z1) (.r3 (l)),.arr false (z2) (.ints .i64 (m)),.arr false (z3) (.ints .i64 (t)),.arr false (z4) (.ints .i64 (b))],.agg [.int .i64 a,.int .i64 c,.int .i64 o]]=
      some [.agg [.int .i64 (r),.arr true (false) (.r3 (l)),.arr true (false) (.ints .i64 ((boS a c o (m,t)).1.1)),.arr true (false) (.ints .i64 ((boS a c o (m,t)).1.2)),.arr true (false) (.ints .i64 (b))],ldD (boS a c o (m,t)).2]:=by
  rw [qni]
  have L:=F.len; have ml:=F.ml; have tl:=F.tl; have bl:=F.bl; have rr:=F.rr
  have f:=F.at (m.length - 1)
  have d:=q1z ⟨f.1,f.2.1⟩ ho
  have ed:Int.tdiv (m.getD (m.length - 1) 0*o) 1000=boX o m:=d.2
  have G:=qbw F ho
  have bx:=qby F ho; have bY:=qbz F ho; have ip:=qpf ha hc
  have ey:qz4 (t.getD (m.length - 1) 0) (boX o m) (m.getD (m.length - 1) 0)=boY o m t:=rfl
  unfold boS
  change StF r l (m.set (m.length - 1) (m.getD (m.length - 1) 0 - boX o m)) (t.set (m.length - 1) (t.getD (m.length - 1) 0 - boY o m t)) b∧_ at G
  rw [show bo1 o (m,t)=(m.set (m.length - 1) (m.getD (m.length - 1) 0 - boX o m),t.set (m.length - 1) (t.getD (m.length - 1) 0 - boY o m t)) from rfl] at G ⊢
  simp (disch:=omega) only [wk,bit,nI,qhd,ed,qgk,qft,ey]
  generalize m.set (m.length - 1) (m.getD (m.length - 1) 0 - boX o m)=M at*
  generalize t.set (m.length - 1) (t.getD (m.length - 1) 0 - boY o m t)=T at*
  obtain ⟨G,g1,g2⟩:=G
  have Ml:=G.ml; have Tl:=G.tl; have Mf:=G.at 0; have Ms:=G.msum
  have eS:=qgm (k+1) (by omega) false M (by omega) G.mmem
  by_cases h:isum M+a≤10000000
  · rw [if_pos h]
    simp (disch:=omega) only [wk,bit,nI,eS,tnz]
    rfl
  · rw [if_neg h]
    simp (disch:=omega) only [wk,bit,nI,eS]
theorem qtn (k:Nat)(hk:2000000≤k)(fu:List (Nat×Nat))(a0:Int)(a1z:Bool)(a1:List Cell)(a2z:Bool)(a2:List Int)(a3z:Bool)(a3:List Int)(a4z:Bool)(a4:List Int)(z1 z2 z3 z4:Bool)(r:Int)(l:List Cell)(b:List Int): ∀ (N n i:Nat)(s:S2),i+n=16→n<N→StF r l s.1 s.2 b→
    lp (k+6) impl_State_macro [(.ptr true [(.int .i64 (a0)),(.arr true (a1z) (.r3 (a1))),(.arr true (a2z) (.ints .i64 (a2))),(.arr true (a3z) (.ints .i64 (a3))),(.arr true (a4z) (.ints .i64 (a4)))])] fu 1 (N) (qyo (i:Int) z1 l z2 s.1 z3 s.2 z4 b r)=some [.ptr true [.int .i64 (r),.arr true (z1) (.r3 (l)),.arr true (z2) (.ints .i64 ((q13 l b n i s).1)),.arr true (z3) (.ints .i64 ((q13 l b n i s).2)),.arr true (z4) (.ints .i64 (b))]]
  | 0,n,i,s,hi,hN,F=>by omega
  | N+1,0,i,s,hi,hN,F=>by
    rw [qq3]
    have:i=16:=by omega
    subst this
    simp (disch:=omega) only [wk,bit,nI]; rfl
  | N+1,n+1,i,s,hi,hN,F=>by
    rw [qq3]
    have L:=F.len
    have IH:=qtn k hk fu a0 a1z a1 a2z a2 a3z a3 a4z a4 z1 z2 z3 z4 r l b N n (i+1) (tick l b i s) (by omega) (by omega) (q04 F i)
    have eA:=qdh (k+1) (by omega) r z1 l (i:Int) (by omega) (by omega)
    have eM:=qd8 k (by omega) z1 z2 z3 z4 false r l s.1 s.2 b (i:Int) F
    unfold q13
    simp only [tick] at IH
    simp (disch:=omega) only [wk,bit,nI,eA,eM,qw2,qw3,qw4,qw5,qw6,IH]
    rfl
theorem qd6 (k:Nat)(hk:2000000≤k)(z1 z2 z3 z4:Bool)(r:Int)(l:List Cell)(m t b:List Int)(F:StF r l m t b):
    go (k+7) impl_State_macro [.ptr true [.int .i64 (r),.arr true (z1) (.r3 (l)),.arr true (z2) (.ints .i64 (m)),.arr true (z3) (.ints .i64 (t)),.arr true (z4) (.ints .i64 (b))]]=some [.ptr true [.int .i64 (r),.arr true (z1) (.r3 (l)),.arr true (z2) (.ints .i64 ((q13 l b 16 0 (m,t)).1)),.arr true (z3) (.ints .i64 ((q13 l b 16 0 (m,t)).2)),.arr true (z4) (.ints .i64 (b))]]:=by
  rw [qki]
  exact qtn k hk [] r z1 l z2 m z3 t z4 b z1 z2 z3 z4 r l b (k+6) 16 0 (m,t) rfl (by omega) F
theorem qcs (k:Nat)(x y:Ld)(h1:0≤x.mi+y.mi∧x.mi+y.mi≤1000000000000000000)(h2:0≤x.mo+y.mo∧x.mo+y.mo≤1000000000000000000)(h3:0≤x.ti+y.ti∧x.ti+y.ti≤1000000000000000000)(h4:0≤x.ou+y.ou∧x.ou+y.ou≤1000000000000000000):
    go (k+1) impl_LedgerAdd [ldD x,ldD y]=some [ldD (x.add y)]:=by
  rw [qjl]
  simp (disch:=omega) only [wk,bit,nI]
  rfl
theorem qfn (k:Nat)(x y:Ld)(h1:0≤x.mi+y.mi∧x.mi+y.mi≤1000000000000000000)(h2:0≤x.mo+y.mo∧x.mo+y.mo≤1000000000000000000)(h3:0≤x.ti+y.ti∧x.ti+y.ti≤1000000000000000000)(h4:0≤x.ou+y.ou∧x.ou+y.ou≤1000000000000000000):
    go (k+1) spec_LedgerAdd [ldD x,ldD y]=some [ldD (x.add y)]:=by
  rw [qme]
  simp (disch:=omega) only [wk,bit,nI]
  rfl
end Go.Proofs.YtjfjniebmdafeaaGreatDoor
end
section
namespace Go.Proofs.YtjfjniebmdafeaaGreatDoor
open Go.Ev
set_option maxRecDepth 20000
abbrev plD (p:Pl):D:=.agg [.int .i64 p.bi,.int .i64 p.bs,.int .i64 p.bo,.int .i64 p.rain,.int .i64 p.loss,.int .i64 p.dec,.int .i64 p.high,.int .i64 p.low,.int .i64 p.every]
theorem qed (k:Nat)(hk:2000000≤k)(z1 z2 z3 z4:Bool)(r:Int)(l:List Cell)(s:S2)(b:List Int)(a:Int)(ha:0≤a∧a≤10000)(F:StF r l s.1 s.2 b):
    go (k+5) impl_State_rain [.ptr true [.int .i64 (r),.arr true (z1) (.r3 (l)),.arr true (z2) (.ints .i64 (s.1)),.arr true (z3) (.ints .i64 (s.2)),.arr true (z4) (.ints .i64 (b))],.int .i64 a]=some [ldD (raS a l s).2,.ptr true [.int .i64 (r),.arr true (z1) (.r3 (l)),.arr true (z2) (.ints .i64 ((raS a l s).1.1)),.arr true (z3) (.ints .i64 ((raS a l s).1.2)),.arr true (z4) (.ints .i64 (b))]]:=by
  have z:=qw1 a l s
  rw [qec k hk z1 z2 z3 z4 r l s.1 s.2 b a ha F,qw0]
  simp only [ldD,z.1,z.2.1,z.2.2]
theorem qg7 (k:Nat)(hk:2000000≤k)(z1 z2 z3 z4:Bool)(r:Int)(l:List Cell)(s:S2)(b:List Int)(a:Int)(ha:0≤a∧a≤10000)(F:StF r l s.1 s.2 b):
    go (k+4) spec_l14Rain [.agg [.int .i64 (r),.arr false (z1) (.r3 (l)),.arr false (z2) (.ints .i64 (s.1)),.arr false (z3) (.ints .i64 (s.2)),.arr false (z4) (.ints .i64 (b))],.int .i64 a]=some [.agg [.int .i64 (r),.arr true (false) (.r3 (l)),.arr true (false) (.ints .i64 ((raS a l s).1.1)),.arr true (false) (.ints .i64 ((raS a l s).1.2)),.arr true (false) (.ints .i64 (b))],ldD (raS a l s).2]:=by
  have z:=qw1 a l s
  rw [qg6 k hk z1 z2 z3 z4 r l s.1 s.2 b a ha F,qw0]
  simp only [ldD,z.1,z.2.1,z.2.2]
theorem q17 {a b:Int}(ha:0≤a):Int.tmod a b=a % b:=Int.tmod_eq_emod_of_nonneg ha
set_option maxHeartbeats 1000000 in
theorem qeg (k:Nat)(hk:2000000≤k)(r:Int)(s:S3)(b:List Int)(F:StF r s.1 s.2.1 s.2.2 b)(p:Pl)(P:PlF p)(c:Int)(hc:0≤c∧c≤10000000):
    go (k+11) impl_State_runMacro [.ptr true [.int .i64 (r),.arr true (false) (.r3 (s.1)),.arr true (false) (.ints .i64 (s.2.1)),.arr true (false) (.ints .i64 (s.2.2)),.arr true (false) (.ints .i64 (b))],plD p,.int .i64 c]=some [ldD (mac p b c s).2,.ptr true [.int .i64 (r),.arr true (false) (.r3 ((mac p b c s).1.1)),.arr true (false) (.ints .i64 ((mac p b c s).1.2.1)),.arr true (false) (.ints .i64 ((mac p b c s).1.2.2)),.arr true (false) (.ints .i64 (b))]]:=by
  rw [qkp]
  obtain ⟨l,s⟩:=s
  change StF r l s.1 s.2 b at F
  have h1:=qbx F P.bi P.bs P.bo
  have e1:=qdk (k+6) (by omega) false false false false r l s.1 s.2 b F p.bi p.bs p.bo P.bi P.bs P.bo
  obtain ⟨s1,q1⟩: ∃ x,x=boS p.bi p.bs p.bo s:=⟨_,rfl⟩
  change StF r l (boS p.bi p.bs p.bo s).1.1 (boS p.bi p.bs p.bo s).1.2 b∧Led s (boS p.bi p.bs p.bo s).1 (boS p.bi p.bs p.bo s).2 at h1
  change _=some [ldD (boS p.bi p.bs p.bo s).2,.ptr true [.int .i64 (r),.arr true (false) (.r3 (l)),.arr true (false) (.ints .i64 ((boS p.bi p.bs p.bo s).1.1)),.arr true (false) (.ints .i64 ((boS p.bi p.bs p.bo s).1.2)),.arr true (false) (.ints .i64 (b))]] at e1
  rw [← q1] at h1 e1
  have h2:=qwz h1.1 P.rain
  have e2:=qed (k+5) (by omega) false false false false r l s1.1 b p.rain P.rain h1.1
  obtain ⟨s2,q2⟩: ∃ x,x=raS p.rain l s1.1:=⟨_,rfl⟩
  change StF r l (raS p.rain l s1.1).1.1 (raS p.rain l s1.1).1.2 b∧Led s1.1 (raS p.rain l s1.1).1 (raS p.rain l s1.1).2 at h2
  rw [← q2] at h2 e2
  have h3:=q0d h2.1 P.loss
  have e3:=qej (k+5) (by omega) false false false false r l s2.1.1 s2.1.2 b p.loss P.loss h2.1
  obtain ⟨s3,q3⟩: ∃ x,x=soS p.loss l s2.1:=⟨_,rfl⟩
  change StF r l (soS p.loss l s2.1).1.1 (soS p.loss l s2.1).1.2 b∧Led s2.1 (soS p.loss l s2.1).1 (soS p.loss l s2.1).2 at h3
  change _=some [ldD (soS p.loss l s2.1).2,.ptr true [.int .i64 (r),.arr true (false) (.r3 (l)),.arr true (false) (.ints .i64 ((soS p.loss l s2.1).1.1)),.arr true (false) (.ints .i64 ((soS p.loss l s2.1).1.2)),.arr true (false) (.ints .i64 (b))]] at e3
  rw [← q3] at h3 e3
  have h4:=qii h3.1 P.dec
  have e4:=qdq (k+9) (by omega) false false false false r l s3.1.1 s3.1.2 b p.dec P.dec h3.1
  obtain ⟨s4,q4⟩: ∃ x,x=deS p.dec l s3.1:=⟨_,rfl⟩
  change StF r l (deS p.dec l s3.1).1.1 (deS p.dec l s3.1).1.2 b∧Led s3.1 (deS p.dec l s3.1).1 (deS p.dec l s3.1).2 at h4
  change _=some [ldD (deS p.dec l s3.1).2,.ptr true [.int .i64 (r),.arr true (false) (.r3 (l)),.arr true (false) (.ints .i64 ((deS p.dec l s3.1).1.1)),.arr true (false) (.ints .i64 ((deS p.dec l s3.1).1.2)),.arr true (false) (.ints .i64 (b))]] at e4
  rw [← q4] at h4 e4
  have e5:=qd6 (k+3) (by omega) false false false false r l s4.1.1 s4.1.2 b h4.1
  have F5:=(q14 16 0 s4.1 h4.1).1
  have l1:=h1.2; have l2:=h2.2; have l3:=h3.2; have l4:=h4.2
  have a1:=l1.mi; have a2:=l2.mi; have a3:=l3.mi; have a4:=l4.mi
  have b1:=l1.mo; have b2:=l2.mo; have b3:=l3.mo; have b4:=l4.mo
  have c1:=l1.ti; have c2:=l2.ti; have c3:=l3.ti; have c4:=l4.ti
  have d1:=l1.ou; have d2:=l2.ou; have d3:=l3.ou; have d4:=l4.ou
  have g1:=qcs (k+9) s1.2 s2.2 (by omega) (by omega) (by omega) (by omega)
  have g2:=qcs (k+9) (s1.2.add s2.2) s3.2 (by simp only [Ld.add]; omega) (by simp only [Ld.add]; omega) (by simp only [Ld.add]; omega) (by simp only [Ld.add]; omega)
  have g3:=qcs (k+9) ((s1.2.add s2.2).add s3.2) s4.2 (by simp only [Ld.add]; omega) (by simp only [Ld.add]; omega) (by simp only [Ld.add]; omega) (by simp only [Ld.add]; omega)
  have eq:mac p b c (l,s)=(if 0<p.every∧(c+1) % p.every=0 then ada p.high p.low b (l,q13 l b 16 0 s4.1) else (l,q13 l b 16 0 s4.1),((s1.2.add s2.2).add s3.2).add s4.2):=by
    subst q4; subst q3; subst q2; subst q1; rfl
  have eA:=qdi k (by omega) r l (q13 l b 16 0 s4.1).1 (q13 l b 16 0 s4.1).2 b F5 p.high p.low
  have tm:Int.tmod (c+1) p.every=(c+1) % p.every:=q17 (by omega)
  rw [eq]
  simp (disch:=omega) only [wk,bit,nI,e1,e2,e3,e4,e5,g1,g2,g3,qw2,qw3,qw4,qw5,qw6,tm]
  by_cases w:0<p.every
  · by_cases w2:(c+1) % p.every=0
    · rw [if_pos ⟨w,w2⟩]
      simp (disch:=omega) only [wk,bit,nI,eA,w2,qw2,qw3,qw4,qw5,qw6]
      rfl
    · rw [if_neg (fun h=>w2 h.2)]
      simp (disch:=omega) only [wk,bit,nI]
  · rw [if_neg (fun h=>w h.1)]
    simp (disch:=omega) only [wk,bit,nI]
set_option maxHeartbeats 1000000 in
theorem qt9 (k:Nat)(hk:2000000≤k)(fu:List (Nat×Nat))(r:Int)(l:List Cell)(b:List Int)(p:Pl)(P:PlF p)(c:Int)(hc:0≤c∧c≤10000000)(L:Ld)(y1 y2 y3 y4:Bool)(q1:List Cell)(q2 q3 q4:List Int)(p0 p1 p2 p3 p4:Int): ∀ (N n i:Nat)(s:S2),i+n=16→n<N→StF r l s.1 s.2 b→
    lp (k+7) spec_l18Macro [] fu 8 (N) (qzw c (i:Int) p.bi p.bs p.bo p.rain p.loss p.dec p.high p.low p.every y1 q1 y2 q2 y3 q3 y4 q4 p0 p1 p2 p3 p4 false l false s.1 false s.2 false b r L.mi L.mo L.ti L.ou)=
      some [.agg [.int .i64 (r),.arr true (false) (.r3 ((if 0<p.every∧(c+1) % p.every=0 then ada p.high p.low b (l,q13 l b n i s) else (l,q13 l b n i s)).1)),.arr true (false) (.ints .i64 ((if 0<p.every∧(c+1) % p.every=0 then ada p.high p.low b (l,q13 l b n i s) else (l,q13 l b n i s)).2.1)),.arr true (false) (.ints .i64 ((if 0<p.every∧(c+1) % p.every=0 then ada p.high p.low b (l,q13 l b n i s) else (l,q13 l b n i s)).2.2)),.arr true (false) (.ints .i64 (b))],ldD L]
  | 0,n,i,s,hi,hN,F=>by omega
  | N+1,0,i,s,hi,hN,F=>by
    rw [qsb]
    have:i=16:=by omega
    subst this
    have LL:=F.len
    have tm:Int.tmod (c+1) p.every=(c+1) % p.every:=q17 (by omega)
    have eA:=qgx k (by omega) r l s.1 s.2 b F p.high p.low
    rw [show q13 l b 0 16 s=s from rfl]
    simp (disch:=omega) only [wk,bit,nI,tm]
    by_cases w:0<p.every
    · by_cases w2:(c+1) % p.every=0
      · rw [if_pos ⟨w,w2⟩]
        simp (disch:=omega) only [wk,bit,nI,eA,w2]
        rfl
      · rw [if_neg (fun h=>w2 h.2)]
        simp (disch:=omega) only [wk,bit,nI]
    · rw [if_neg (fun h=>w h.1)]
      simp (disch:=omega) only [wk,bit,nI]
  | N+1,n+1,i,s,hi,hN,F=>by
    rw [qsb]
    have LL:=F.len
    have IH:=qt9 k hk fu r l b p P c hc L y1 y2 y3 y4 q1 q2 q3 q4 p0 p1 p2 p3 p4 N n (i+1) (tick l b i s) (by omega) (by omega) (q04 F i)
    have eS:=qgt (k+2) (by omega) r false false false false l s.1 s.2 b F (i:Int)
    rw [show q13 l b (n+1) i s=q13 l b n (i+1) (tick l b i s) from rfl]
    simp only [tick] at IH ⊢
    simp (disch:=omega) only [wk,bit,nI,eS,IH]
set_option maxHeartbeats 1000000 in
theorem qgy (k:Nat)(hk:2000000≤k)(r:Int)(s:S3)(b:List Int)(F:StF r s.1 s.2.1 s.2.2 b)(p:Pl)(P:PlF p)(c:Int)(hc:0≤c∧c≤10000000):
    go (k+8) spec_l18Macro [.agg [.int .i64 (r),.arr false (false) (.r3 (s.1)),.arr false (false) (.ints .i64 (s.2.1)),.arr false (false) (.ints .i64 (s.2.2)),.arr false (false) (.ints .i64 (b))],plD p,.int .i64 c]=some [.agg [.int .i64 (r),.arr true (false) (.r3 ((mac p b c s).1.1)),.arr true (false) (.ints .i64 ((mac p b c s).1.2.1)),.arr true (false) (.ints .i64 ((mac p b c s).1.2.2)),.arr true (false) (.ints .i64 (b))],ldD (mac p b c s).2]:=by
  rw [qnr]
  obtain ⟨l,s⟩:=s
  change StF r l s.1 s.2 b at F
  have h1:=qbx F P.bi P.bs P.bo
  have e1:=qf3 (k+4) (by omega) false false false false r l s.1 s.2 b F p.bi p.bs p.bo P.bi P.bs P.bo
  obtain ⟨s1,q1⟩: ∃ x,x=boS p.bi p.bs p.bo s:=⟨_,rfl⟩
  change StF r l (boS p.bi p.bs p.bo s).1.1 (boS p.bi p.bs p.bo s).1.2 b∧Led s (boS p.bi p.bs p.bo s).1 (boS p.bi p.bs p.bo s).2 at h1
  change _=some [.agg [.int .i64 (r),.arr true (false) (.r3 (l)),.arr true (false) (.ints .i64 ((boS p.bi p.bs p.bo s).1.1)),.arr true (false) (.ints .i64 ((boS p.bi p.bs p.bo s).1.2)),.arr true (false) (.ints .i64 (b))],ldD (boS p.bi p.bs p.bo s).2] at e1
  rw [← q1] at h1 e1
  have h2:=qwz h1.1 P.rain
  have e2:=qg7 (k+3) (by omega) false false false false r l s1.1 b p.rain P.rain h1.1
  obtain ⟨s2,q2⟩: ∃ x,x=raS p.rain l s1.1:=⟨_,rfl⟩
  change StF r l (raS p.rain l s1.1).1.1 (raS p.rain l s1.1).1.2 b∧Led s1.1 (raS p.rain l s1.1).1 (raS p.rain l s1.1).2 at h2
  rw [← q2] at h2 e2
  have h3:=q0d h2.1 P.loss
  have e3:=qg8 (k+3) (by omega) false false false false r l s2.1.1 s2.1.2 b p.loss P.loss h2.1
  obtain ⟨s3,q3⟩: ∃ x,x=soS p.loss l s2.1:=⟨_,rfl⟩
  change StF r l (soS p.loss l s2.1).1.1 (soS p.loss l s2.1).1.2 b∧Led s2.1 (soS p.loss l s2.1).1 (soS p.loss l s2.1).2 at h3
  change _=some [.agg [.int .i64 (r),.arr true (false) (.r3 (l)),.arr true (false) (.ints .i64 ((soS p.loss l s2.1).1.1)),.arr true (false) (.ints .i64 ((soS p.loss l s2.1).1.2)),.arr true (false) (.ints .i64 (b))],ldD (soS p.loss l s2.1).2] at e3
  rw [← q3] at h3 e3
  have h4:=qii h3.1 P.dec
  have e4:=qf4 (k+4) (by omega) false false false false r l s3.1.1 s3.1.2 b p.dec P.dec h3.1
  obtain ⟨s4,q4⟩: ∃ x,x=deS p.dec l s3.1:=⟨_,rfl⟩
  change StF r l (deS p.dec l s3.1).1.1 (deS p.dec l s3.1).1.2 b∧Led s3.1 (deS p.dec l s3.1).1 (deS p.dec l s3.1).2 at h4
  change _=some [.agg [.int .i64 (r),.arr true (false) (.r3 (l)),.arr true (false) (.ints .i64 ((deS p.dec l s3.1).1.1)),.arr true (false) (.ints .i64 ((deS p.dec l s3.1).1.2)),.arr true (false) (.ints .i64 (b))],ldD (deS p.dec l s3.1).2] at e4
  rw [← q4] at h4 e4
  have l1:=h1.2; have l2:=h2.2; have l3:=h3.2; have l4:=h4.2
  have a1:=l1.mi; have a2:=l2.mi; have a3:=l3.mi; have a4:=l4.mi
  have b1:=l1.mo; have b2:=l2.mo; have b3:=l3.mo; have b4:=l4.mo
  have c1:=l1.ti; have c2:=l2.ti; have c3:=l3.ti; have c4:=l4.ti
  have d1:=l1.ou; have d2:=l2.ou; have d3:=l3.ou; have d4:=l4.ou
  have g1:=qfn (k+6) s1.2 s2.2 (by omega) (by omega) (by omega) (by omega)
  have g2:=qfn (k+6) s3.2 s4.2 (by omega) (by omega) (by omega) (by omega)
  have g3:=qfn (k+6) (s1.2.add s2.2) (s3.2.add s4.2) (by simp only [Ld.add]; omega) (by simp only [Ld.add]; omega) (by simp only [Ld.add]; omega) (by simp only [Ld.add]; omega)
  have ll:(s1.2.add s2.2).add (s3.2.add s4.2)=((s1.2.add s2.2).add s3.2).add s4.2:=by simp only [Ld.add,Int.add_assoc]
  have eq:mac p b c (l,s)=(if 0<p.every∧(c+1) % p.every=0 then ada p.high p.low b (l,q13 l b 16 0 s4.1) else (l,q13 l b 16 0 s4.1),(s1.2.add s2.2).add (s3.2.add s4.2)):=by
    rw [ll]; subst q4; subst q3; subst q2; subst q1; rfl
  have eM:=qt9 k hk [] r l b p P c hc ((s1.2.add s2.2).add (s3.2.add s4.2)) true true true true [] [] [] [] 0 0 0 0 0 (k+7) 16 0 s4.1 rfl (by omega) h4.1
  rw [show ((0:Nat):Int)=0 from rfl] at eM
  rw [eq]
  simp (disch:=omega) only [wk,bit,nI,e1,e2,e3,e4,g1,g2,g3]
  exact eM
end Go.Proofs.YtjfjniebmdafeaaGreatDoor
end
section
namespace Go.Proofs.YtjfjniebmdafeaaGreatDoor
open Go.Ev
theorem qmq (k:Nat)(a0:Int)(a1z:Bool)(a1:L3)(a2z:Bool)(a2:LI)(a3z:Bool)(a3:LI)(a4z:Bool)(a4:LI)(a5 a6 a7 a8 a9 a10 a11 a12 a13 a14 a15 a16 a17 a18 a19 a20:Int):go (k+1) spec_WorldOk [wV false a0 a1z a1 a2z a2 a3z a3 a4z a4 a5 a6 a7 a8 a9 a10 a11 a12 a13 a14 a15 a16 a17 a18 a19 a20]=
 (go k spec_StateOk [sV false a0 a1z a1 a2z a2 a3z a3 a4z a4]).bind fun r0=>
 cond (!bit (nth r0 0))
 (some [.bool false])
 ((go k spec_PlanOk [.agg [.int .i64 a5,.int .i64 a6,.int .i64 a7,.int .i64 a8,.int .i64 a9,.int .i64 a10,.int .i64 a11,.int .i64 a12,.int .i64 a13]]).bind fun r1=>
 cond (!bit (nth r1 0))
 (some [.bool false])
 ((go k spec_l01In [.int .i64 a14,.int .i64 0,.int .i64 100000]).bind fun r2=>
 cond (!bit (nth r2 0))
 (some [.bool false])
 ((go k spec_l36Amount [.int .i64 a15]).bind fun r3=>
 cond (!bit (nth r3 0))
 (some [.bool false])
 ((go k spec_l36Amount [.int .i64 a16]).bind fun r4=>
 cond (!bit (nth r4 0))
 (some [.bool false])
 ((go k spec_l36Amount [.int .i64 a17]).bind fun r5=>
 cond (!bit (nth r5 0))
 (some [.bool false])
 ((go k spec_l36Amount [.int .i64 a18]).bind fun r6=>
 cond (!bit (nth r6 0))
 (some [.bool false])
 ((go k spec_l07Sum [.arr false a2z (.ints .i64 a2)]).bind fun r7=>
 cond (decide (IntKind.wrap .i64 (IntKind.wrap .i64 (D.toInt (nth r7 0) - a15)+a16)=a19))
 ((go k spec_l07Sum [.arr false a3z (.ints .i64 a3)]).bind fun r8=>
 some [.bool (decide (IntKind.wrap .i64 (IntKind.wrap .i64 (D.toInt (nth r8 0) - a17)+a18)=a20))])
 (some [.bool false])))))))):=by kernel_rfl
theorem qkx (k:Nat)(a0:Int)(a1z:Bool)(a1:L3)(a2z:Bool)(a2:LI)(a3z:Bool)(a3:LI)(a4z:Bool)(a4:LI)(a5 a6 a7 a8 a9 a10 a11 a12 a13 a14 a15 a16 a17 a18 a19 a20:Int):go (k+1) impl_WorldOk [wV false a0 a1z a1 a2z a2 a3z a3 a4z a4 a5 a6 a7 a8 a9 a10 a11 a12 a13 a14 a15 a16 a17 a18 a19 a20]=
 (go k impl_StateOk [sV false a0 a1z a1 a2z a2 a3z a3 a4z a4]).bind fun r0=>
 cond (bit (nth r0 0))
 ((go k impl_PlanOk [.agg [.int .i64 a5,.int .i64 a6,.int .i64 a7,.int .i64 a8,.int .i64 a9,.int .i64 a10,.int .i64 a11,.int .i64 a12,.int .i64 a13]]).bind fun r1=>
 cond (bit (nth r1 0))
 ((go k impl_within [.int .i64 a14,.int .i64 0,.int .i64 100000]).bind fun r2=>
 cond (bit (nth r2 0))
 ((go k impl_ledgerOk [.agg [.int .i64 a15,.int .i64 a16,.int .i64 a17,.int .i64 a18]]).bind fun r3=>
 cond (bit (nth r3 0))
 ((go k impl_sum [.arr false a2z (.ints .i64 a2)]).bind fun r4=>
 cond (decide (a19=IntKind.wrap .i64 (IntKind.wrap .i64 (D.toInt (nth r4 0) - a15)+a16)))
 ((go k impl_sum [.arr false a3z (.ints .i64 a3)]).bind fun r5=>
 some [.bool (decide (a20=IntKind.wrap .i64 (IntKind.wrap .i64 (D.toInt (nth r5 0) - a17)+a18)))])
 (some [.bool false]))
 (some [.bool false]))
 (some [.bool false]))
 (some [.bool false]))
 (some [.bool false]):=by kernel_rfl

end Go.Proofs.YtjfjniebmdafeaaGreatDoor
end
section
namespace Go.Proofs.YtjfjniebmdafeaaGreatDoor
open Go.Ev
theorem qlw (k:Nat)(a0 a1 a2:Int):go (k+1) spec_BorderOk [.agg [.int .i64 a0,.int .i64 a1,.int .i64 a2]]=
 (go k spec_l01In [.int .i64 a0,.int .i64 0,.int .i64 10000]).bind fun r0=>
 cond (bit (nth r0 0))
 ((go k spec_l01In [.int .i64 a1,.int .i64 0,.int .i64 1000]).bind fun r1=>
 cond (bit (nth r1 0))
 ((go k spec_l01In [.int .i64 a2,.int .i64 0,.int .i64 250]).bind fun r2=>
 some [.bool (bit (nth r2 0))])
 (some [.bool false]))
 (some [.bool false]):=by kernel_rfl
theorem qi4 (k:Nat)(a0 a1 a2:Int):go (k+1) impl_BorderOk [.agg [.int .i64 a0,.int .i64 a1,.int .i64 a2]]=
 (go k impl_within [.int .i64 a0,.int .i64 0,.int .i64 10000]).bind fun r0=>
 cond (bit (nth r0 0))
 ((go k impl_within [.int .i64 a1,.int .i64 0,.int .i64 1000]).bind fun r1=>
 cond (bit (nth r1 0))
 ((go k impl_within [.int .i64 a2,.int .i64 0,.int .i64 250]).bind fun r2=>
 some [.bool (bit (nth r2 0))])
 (some [.bool false]))
 (some [.bool false]):=by kernel_rfl
theorem qlb (k:Nat)(a:Int):go (k+1) impl_isRain [.int .i64 a]=
 (go k impl_within [.int .i64 a,.int .i64 0,.int .i64 10000]).bind fun r0=>
 some [.bool (bit (nth r0 0))]:=by kernel_rfl
theorem qlc (k:Nat)(a:Int):go (k+1) impl_isRate [.int .i64 a]=
 (go k impl_within [.int .i64 a,.int .i64 0,.int .i64 1000]).bind fun r0=>
 some [.bool (bit (nth r0 0))]:=by kernel_rfl
theorem qmh (k:Nat)(a0 a1 a2 a3 a4 a5 a6 a7 a8:Int):go (k+1) spec_PlanOk [.agg [.int .i64 a0,.int .i64 a1,.int .i64 a2,.int .i64 a3,.int .i64 a4,.int .i64 a5,.int .i64 a6,.int .i64 a7,.int .i64 a8]]=
 (go k spec_BorderOk [.agg [.int .i64 a0,.int .i64 a1,.int .i64 a2]]).bind fun r0=>
 cond (bit (nth r0 0))
 ((go k spec_l01In [.int .i64 a3,.int .i64 0,.int .i64 10000]).bind fun r1=>
 cond (bit (nth r1 0))
 ((go k spec_l01In [.int .i64 a4,.int .i64 0,.int .i64 10000]).bind fun r2=>
 cond (bit (nth r2 0))
 ((go k spec_l01In [.int .i64 a5,.int .i64 0,.int .i64 1000]).bind fun r3=>
 cond (bit (nth r3 0))
 ((go k spec_l01In [.int .i64 a6,.int .i64 0,.int .i64 1000000]).bind fun r4=>
 cond (bit (nth r4 0))
 ((go k spec_l01In [.int .i64 a7,.int .i64 0,.int .i64 1000000]).bind fun r5=>
 cond (bit (nth r5 0))
 ((go k spec_l01In [.int .i64 a8,.int .i64 0,.int .i64 100]).bind fun r6=>
 some [.bool (bit (nth r6 0))])
 (some [.bool false]))
 (some [.bool false]))
 (some [.bool false]))
 (some [.bool false]))
 (some [.bool false]))
 (some [.bool false]):=by kernel_rfl
theorem qjz (k:Nat)(a0 a1 a2 a3 a4 a5 a6 a7 a8:Int):go (k+1) impl_PlanOk [.agg [.int .i64 a0,.int .i64 a1,.int .i64 a2,.int .i64 a3,.int .i64 a4,.int .i64 a5,.int .i64 a6,.int .i64 a7,.int .i64 a8]]=
 (go k impl_BorderOk [.agg [.int .i64 a0,.int .i64 a1,.int .i64 a2]]).bind fun r0=>
 cond (bit (nth r0 0))
 ((go k impl_isRain [.int .i64 a3]).bind fun r1=>
 cond (bit (nth r1 0))
 ((go k impl_isRain [.int .i64 a4]).bind fun r2=>
 cond (bit (nth r2 0))
 ((go k impl_isRate [.int .i64 a5]).bind fun r3=>
 cond (bit (nth r3 0))
 ((go k impl_within [.int .i64 a6,.int .i64 0,.int .i64 1000000]).bind fun r4=>
 cond (bit (nth r4 0))
 ((go k impl_within [.int .i64 a7,.int .i64 0,.int .i64 1000000]).bind fun r5=>
 cond (bit (nth r5 0))
 ((go k impl_within [.int .i64 a8,.int .i64 0,.int .i64 100]).bind fun r6=>
 some [.bool (bit (nth r6 0))])
 (some [.bool false]))
 (some [.bool false]))
 (some [.bool false]))
 (some [.bool false]))
 (some [.bool false]))
 (some [.bool false]):=by kernel_rfl
theorem qnt (k:Nat)(a:Int):go (k+1) spec_l36Amount [.int .i64 a]=
 (go k spec_l01In [.int .i64 a,.int .i64 0,.int .i64 1000000000000000]).bind fun r0=>
 some [.bool (bit (nth r0 0))]:=by kernel_rfl
theorem qle (k:Nat)(a0 a1 a2 a3:Int):go (k+1) impl_ledgerOk [.agg [.int .i64 a0,.int .i64 a1,.int .i64 a2,.int .i64 a3]]=
 (go k impl_within [.int .i64 a0,.int .i64 0,.int .i64 1000000000000000]).bind fun r0=>
 cond (bit (nth r0 0))
 ((go k impl_within [.int .i64 a1,.int .i64 0,.int .i64 1000000000000000]).bind fun r1=>
 cond (bit (nth r1 0))
 ((go k impl_within [.int .i64 a2,.int .i64 0,.int .i64 1000000000000000]).bind fun r2=>
 cond (bit (nth r2 0))
 ((go k impl_within [.int .i64 a3,.int .i64 0,.int .i64 1000000000000000]).bind fun r3=>
 some [.bool (bit (nth r3 0))])
 (some [.bool false]))
 (some [.bool false]))
 (some [.bool false]):=by kernel_rfl
theorem qmp (k:Nat)(a0:Int)(a1z:Bool)(a1:L3)(a2z:Bool)(a2:LI)(a3z:Bool)(a3:LI)(a4z:Bool)(a4:LI)(b0 b1 b2 b3 b4 b5 b6 b7 b8:Int):go (k+1) spec_WorldNew [sV false a0 a1z a1 a2z a2 a3z a3 a4z a4,.agg [.int .i64 b0,.int .i64 b1,.int .i64 b2,.int .i64 b3,.int .i64 b4,.int .i64 b5,.int .i64 b6,.int .i64 b7,.int .i64 b8]]=
 (go k spec_StateOk [sV false a0 a1z a1 a2z a2 a3z a3 a4z a4]).bind fun r0=>
 cond (!bit (nth r0 0))
 (some [.agg [.int .i64 0,.arr true true (.r3 []),.arr true true (.ints .i64 []),.arr true true (.ints .i64 []),.arr true true (.ints .i64 []),.int .i64 0,.int .i64 0,.int .i64 0,.int .i64 0,.int .i64 0,.int .i64 0,.int .i64 0,.int .i64 0,.int .i64 0,.int .i64 0,.int .i64 0,.int .i64 0,.int .i64 0,.int .i64 0,.int .i64 0,.int .i64 0],.bool false])
 ((go k spec_PlanOk [.agg [.int .i64 b0,.int .i64 b1,.int .i64 b2,.int .i64 b3,.int .i64 b4,.int .i64 b5,.int .i64 b6,.int .i64 b7,.int .i64 b8]]).bind fun r1=>
 cond (!bit (nth r1 0))
 (some [.agg [.int .i64 0,.arr true true (.r3 []),.arr true true (.ints .i64 []),.arr true true (.ints .i64 []),.arr true true (.ints .i64 []),.int .i64 0,.int .i64 0,.int .i64 0,.int .i64 0,.int .i64 0,.int .i64 0,.int .i64 0,.int .i64 0,.int .i64 0,.int .i64 0,.int .i64 0,.int .i64 0,.int .i64 0,.int .i64 0,.int .i64 0,.int .i64 0],.bool false])
 ((go k spec_l07Copy [sV false a0 a1z a1 a2z a2 a3z a3 a4z a4]).bind fun r2=>
 (go k spec_l07Sum [.arr false a2z (.ints .i64 a2)]).bind fun r3=>
 (go k spec_l07Sum [.arr false a3z (.ints .i64 a3)]).bind fun r4=>
 some [.agg [.int .i64 (D.toInt (D.cell 0 (nth r2 0))),.arr true (D.nil (D.cell 1 (nth r2 0))) (.r3 (D.r3 (D.cell 1 (nth r2 0)))),.arr true (D.nil (D.cell 2 (nth r2 0))) (.ints .i64 (D.ints (D.cell 2 (nth r2 0)))),.arr true (D.nil (D.cell 3 (nth r2 0))) (.ints .i64 (D.ints (D.cell 3 (nth r2 0)))),.arr true (D.nil (D.cell 4 (nth r2 0))) (.ints .i64 (D.ints (D.cell 4 (nth r2 0)))),.int .i64 b0,.int .i64 b1,.int .i64 b2,.int .i64 b3,.int .i64 b4,.int .i64 b5,.int .i64 b6,.int .i64 b7,.int .i64 b8,.int .i64 0,.int .i64 0,.int .i64 0,.int .i64 0,.int .i64 0,.int .i64 (D.toInt (nth r3 0)),.int .i64 (D.toInt (nth r4 0))],.bool true])):=by kernel_rfl

end Go.Proofs.YtjfjniebmdafeaaGreatDoor
end
section
namespace Go.Proofs.YtjfjniebmdafeaaGreatDoor
open Go.Ev
def qb2 (a b c:Int):Bool:=inR a 0 10000&&(inR b 0 1000&&inR c 0 250)
theorem qe3 (k:Nat)(hk:2000000≤k)(a0:Int)(a1:Int)(a2:Int):go (k+2) spec_BorderOk [(.agg [(.int .i64 (a0)),(.int .i64 (a1)),(.int .i64 (a2))])]=some [.bool (qb2 a0 a1 a2)]:=by
  rw [qlw]
  simp (disch:=omega) only [wk,bit,nI,qf7,qig]
  rfl
theorem qca (k:Nat)(hk:2000000≤k)(a0:Int)(a1:Int)(a2:Int):go (k+2) impl_BorderOk [(.agg [(.int .i64 (a0)),(.int .i64 (a1)),(.int .i64 (a2))])]=some [.bool (qb2 a0 a1 a2)]:=by
  rw [qi4]
  simp (disch:=omega) only [wk,bit,nI,qep,qig]
  rfl
theorem qd2 (k:Nat)(hk:2000000≤k)(a:Int):go (k+2) impl_isRain [(.int .i64 (a))]=some [.bool (inR a 0 10000)]:=by
  rw [qlb]
  simp (disch:=omega) only [wk,bit,nI,qep]
theorem qd3 (k:Nat)(hk:2000000≤k)(a:Int):go (k+2) impl_isRate [(.int .i64 (a))]=some [.bool (inR a 0 1000)]:=by
  rw [qlc]
  simp (disch:=omega) only [wk,bit,nI,qep]
def qwn (a0 a1 a2 a3 a4 a5 a6 a7 a8:Int):Bool:=qb2 a0 a1 a2&&(inR a3 0 10000&&(inR a4 0 10000&&(inR a5 0 1000&&(inR a6 0 1000000&&(inR a7 0 1000000&&inR a8 0 100)))))
theorem qfq (k:Nat)(hk:2000000≤k)(a0:Int)(a1:Int)(a2:Int)(a3:Int)(a4:Int)(a5:Int)(a6:Int)(a7:Int)(a8:Int):go (k+3) spec_PlanOk [(.agg [(.int .i64 (a0)),(.int .i64 (a1)),(.int .i64 (a2)),(.int .i64 (a3)),(.int .i64 (a4)),(.int .i64 (a5)),(.int .i64 (a6)),(.int .i64 (a7)),(.int .i64 (a8))])]=some [.bool (qwn a0 a1 a2 a3 a4 a5 a6 a7 a8)]:=by
  rw [qmh]
  simp (disch:=omega) only [wk,bit,nI,qf7,qe3,qig]
  rfl
theorem qcz (k:Nat)(hk:2000000≤k)(a0:Int)(a1:Int)(a2:Int)(a3:Int)(a4:Int)(a5:Int)(a6:Int)(a7:Int)(a8:Int):go (k+3) impl_PlanOk [(.agg [(.int .i64 (a0)),(.int .i64 (a1)),(.int .i64 (a2)),(.int .i64 (a3)),(.int .i64 (a4)),(.int .i64 (a5)),(.int .i64 (a6)),(.int .i64 (a7)),(.int .i64 (a8))])]=some [.bool (qwn a0 a1 a2 a3 a4 a5 a6 a7 a8)]:=by
  rw [qjz]
  simp (disch:=omega) only [wk,bit,nI,qep,qca,qd2,qd3,qig]
  rfl
def qnz:D:=.agg [.int .i64 0,.arr true true (.r3 []),.arr true true (.ints .i64 []),.arr true true (.ints .i64 []),.arr true true (.ints .i64 []),.int .i64 0,.int .i64 0,.int .i64 0,.int .i64 0,.int .i64 0,.int .i64 0,.int .i64 0,.int .i64 0,.int .i64 0,.int .i64 0,.int .i64 0,.int .i64 0,.int .i64 0,.int .i64 0,.int .i64 0,.int .i64 0]
def newW (r:Int)(l:List Cell)(m t b:List Int)(b0 b1 b2 b3 b4 b5 b6 b7 b8:Int):D:=.agg [.int .i64 r,.arr true false (.r3 l),.arr true false (.ints .i64 m),.arr true false (.ints .i64 t),.arr true false (.ints .i64 b),.int .i64 b0,.int .i64 b1,.int .i64 b2,.int .i64 b3,.int .i64 b4,.int .i64 b5,.int .i64 b6,.int .i64 b7,.int .i64 b8,.int .i64 0,.int .i64 0,.int .i64 0,.int .i64 0,.int .i64 0,.int .i64 (isum m),.int .i64 (isum t)]
theorem qfz (k:Nat)(hk:2000000≤k)(a0:Int)(a1:List Cell)(a2 a3 a4:List Int)(b0 b1 b2 b3 b4 b5 b6 b7 b8:Int)(h1:(a1.length:Int)≤1048576)(h4:(a4.length:Int)≤1048576):
    go (k+8) spec_WorldNew [.agg [.int .i64 a0,.arr false false (.r3 a1),.arr false false (.ints .i64 a2),.arr false false (.ints .i64 a3),.arr false false (.ints .i64 a4)],.agg [.int .i64 b0,.int .i64 b1,.int .i64 b2,.int .i64 b3,.int .i64 b4,.int .i64 b5,.int .i64 b6,.int .i64 b7,.int .i64 b8]]=
    cond (stOk a0 a1 a2 a3 a4&&qwn b0 b1 b2 b3 b4 b5 b6 b7 b8) (some [newW a0 a1 a2 a3 a4 b0 b1 b2 b3 b4 b5 b6 b7 b8,.bool true]) (some [qnz,.bool false]):=by
  rw [qmp]
  simp (disch:=omega) only [wk,bit,nI,qfw,qfq]
  cases g:stOk a0 a1 a2 a3 a4
  · rfl
  cases g2:qwn b0 b1 b2 b3 b4 b5 b6 b7 b8
  · rfl
  have F:=stF.1 g
  have:=F.len; have:=F.ml; have:=F.tl; have:=F.bl; have:=F.rr
  simp only [Bool.not_true,qic]
  rw [qgm _ (by omega) _ _ (by omega) F.mmem,qgm _ (by omega) _ _ (by omega) F.tmem]
  simp (disch:=omega) only [wk,bit,nI,qgk]
  rfl
end Go.Proofs.YtjfjniebmdafeaaGreatDoor
end
section
namespace Go.Proofs.YtjfjniebmdafeaaGreatDoor
open Go.Ev
def qsi (a b c d:Int):Bool:=inR a 0 1000000000000000&&(inR b 0 1000000000000000&&(inR c 0 1000000000000000&&inR d 0 1000000000000000))
theorem qg0 (k:Nat)(hk:2000000≤k)(a:Int):go (k+2) spec_l36Amount [(.int .i64 (a))]=some [.bool (inR a 0 1000000000000000)]:=by
  rw [qnt]
  simp (disch:=omega) only [wk,bit,nI,qf7]
theorem qd5 (k:Nat)(hk:2000000≤k)(a0:Int)(a1:Int)(a2:Int)(a3:Int):go (k+2) impl_ledgerOk [(.agg [(.int .i64 (a0)),(.int .i64 (a1)),(.int .i64 (a2)),(.int .i64 (a3))])]=some [.bool (qsi a0 a1 a2 a3)]:=by
  rw [qle]
  simp (disch:=omega) only [wk,bit,nI,qep,qig]
  rfl
def q23 (a0:Int)(a1:List Cell)(a2 a3 a4:List Int)(b0 b1 b2 b3 b4 b5 b6 b7 b8 s c0 c1 c2 c3 f g:Int):Bool:=
  stOk a0 a1 a2 a3 a4&&(qwn b0 b1 b2 b3 b4 b5 b6 b7 b8&&(inR s 0 100000&&(qsi c0 c1 c2 c3&&(decide (isum a2 - c0+c1=f)&&decide (isum a3 - c2+c3=g)))))
theorem qpd {a m:Int}(h:inR a 0 m=true):0≤a∧a≤m:=by
  simp only [inR,Bool.and_eq_true,decide_eq_true_eq] at h
  omega
theorem qiq (a b:Int):decide (a=b)=decide (b=a):=decide_eq_decide.2 eq_comm
theorem qf1 (k:Nat)(hk:2000000≤k)(a0:Int)(a1z:Bool)(a1:List (Int×Int×Int))(a2z:Bool)(a2:List Int)(a3z:Bool)(a3:List Int)(a4z:Bool)(a4:List Int)(a5:Int)(a6:Int)(a7:Int)(a8:Int)(a9:Int)(a10:Int)(a11:Int)(a12:Int)(a13:Int)(a14:Int)(a15:Int)(a16:Int)(a17:Int)(a18:Int)(a19:Int)(a20:Int)(h1:(a1.length:Int)≤1048576)(h4:(a4.length:Int)≤1048576):
    go (k+8) spec_WorldOk [(.agg [(.int .i64 (a0)),(.arr false (a1z) (.r3 (a1))),(.arr false (a2z) (.ints .i64 (a2))),(.arr false (a3z) (.ints .i64 (a3))),(.arr false (a4z) (.ints .i64 (a4))),(.int .i64 (a5)),(.int .i64 (a6)),(.int .i64 (a7)),(.int .i64 (a8)),(.int .i64 (a9)),(.int .i64 (a10)),(.int .i64 (a11)),(.int .i64 (a12)),(.int .i64 (a13)),(.int .i64 (a14)),(.int .i64 (a15)),(.int .i64 (a16)),(.int .i64 (a17)),(.int .i64 (a18)),(.int .i64 (a19)),(.int .i64 (a20))])]=some [.bool (q23 a0 a1 a2 a3 a4 a5 a6 a7 a8 a9 a10 a11 a12 a13 a14 a15 a16 a17 a18 a19 a20)]:=by
  rw [qmq]
  simp (disch:=omega) only [wk,bit,nI,qfw,qfq,qf7,qg0]
  simp only [q23,qsi]
  cases g:stOk a0 a1 a2 a3 a4
  · rfl
  cases g2:qwn a5 a6 a7 a8 a9 a10 a11 a12 a13
  · rfl
  cases g3:inR a14 0 100000
  · rfl
  cases g4:inR a15 0 1000000000000000
  · rfl
  cases g5:inR a16 0 1000000000000000
  · rfl
  cases g6:inR a17 0 1000000000000000
  · rfl
  cases g7:inR a18 0 1000000000000000
  · rfl
  have F:=stF.1 g
  have:=F.len; have:=F.ml; have:=F.tl; have:=F.bl; have:=F.rr
  have b4:=qpd g4; have b5:=qpd g5; have b6:=qpd g6; have b7:=qpd g7
  have s1:=qps _ F.mmem; have s2:=qps _ F.tmem
  simp only [Bool.not_true,qic,Bool.true_and]
  rw [qgm _ (by omega) _ _ (by omega) F.mmem,qgm _ (by omega) _ _ (by omega) F.tmem]
  simp (disch:=omega) only [wk,bit,nI,qig]
theorem qdd (k:Nat)(hk:2000000≤k)(a0:Int)(a1z:Bool)(a1:List (Int×Int×Int))(a2z:Bool)(a2:List Int)(a3z:Bool)(a3:List Int)(a4z:Bool)(a4:List Int)(a5:Int)(a6:Int)(a7:Int)(a8:Int)(a9:Int)(a10:Int)(a11:Int)(a12:Int)(a13:Int)(a14:Int)(a15:Int)(a16:Int)(a17:Int)(a18:Int)(a19:Int)(a20:Int)(h1:(a1.length:Int)≤1048576)(h4:(a4.length:Int)≤1048576):
    go (k+9) impl_WorldOk [(.agg [(.int .i64 (a0)),(.arr false (a1z) (.r3 (a1))),(.arr false (a2z) (.ints .i64 (a2))),(.arr false (a3z) (.ints .i64 (a3))),(.arr false (a4z) (.ints .i64 (a4))),(.int .i64 (a5)),(.int .i64 (a6)),(.int .i64 (a7)),(.int .i64 (a8)),(.int .i64 (a9)),(.int .i64 (a10)),(.int .i64 (a11)),(.int .i64 (a12)),(.int .i64 (a13)),(.int .i64 (a14)),(.int .i64 (a15)),(.int .i64 (a16)),(.int .i64 (a17)),(.int .i64 (a18)),(.int .i64 (a19)),(.int .i64 (a20))])]=some [.bool (q23 a0 a1 a2 a3 a4 a5 a6 a7 a8 a9 a10 a11 a12 a13 a14 a15 a16 a17 a18 a19 a20)]:=by
  rw [qkx]
  simp (disch:=omega) only [wk,bit,nI,qc8,qcz,qep,qd5]
  simp only [q23]
  cases g:stOk a0 a1 a2 a3 a4
  · rfl
  cases g2:qwn a5 a6 a7 a8 a9 a10 a11 a12 a13
  · rfl
  cases g3:inR a14 0 100000
  · rfl
  cases g4:qsi a15 a16 a17 a18
  · rfl
  have F:=stF.1 g
  have:=F.len; have:=F.ml; have:=F.tl; have:=F.bl; have:=F.rr
  have g4' :=g4
  simp only [qsi,Bool.and_eq_true] at g4'
  obtain ⟨i1,i2,i3,i4⟩:=g4'
  have b4:=qpd i1; have b5:=qpd i2; have b6:=qpd i3; have b7:=qpd i4
  have s1:=qps _ F.mmem; have s2:=qps _ F.tmem
  simp only [qie,Bool.true_and]
  rw [qel _ (by omega) _ _ (by omega) F.mmem,qel _ (by omega) _ _ (by omega) F.tmem]
  simp (disch:=omega) only [wk,bit,nI,qig]
  rw [qiq a19,qiq a20]
end Go.Proofs.YtjfjniebmdafeaaGreatDoor
end
section
namespace Go.Proofs.YtjfjniebmdafeaaGreatDoor
open Go.Ev
theorem qji (k:Nat)(a0:Int)(a1z:Bool)(a1:L3)(b:Int):go (k+1) impl_LeafAt [.agg [.int .i64 a0,.arr false a1z (.r3 a1)],.int .i64 b]=
 (go k impl_MeshOk [.agg [.int .i64 a0,.arr false a1z (.r3 a1)]]).bind fun r0=>
 cond (!bit (nth r0 0))
 (some [.int .i64 ((-1:Int))])
 ((go k slices_IndexFunc_impl_Id_impl_Id [.arr false a1z (.r3 a1),.fn impl_LeafAt_1 [.ptr false [.int .i64 b]]]).bind fun r1=>
 some [.int .i64 (D.toInt (nth r1 0))]):=by kernel_rfl
theorem qjj (k:Nat)(v0 v1 v2 v3:Int):go (k+1) impl_LeafAt_1 [.agg [.int .i64 v0,.int .i64 v1,.int .i64 v2],.ptr false [.int .i64 v3]]=
 (go k impl_StartOf [.agg [.int .i64 v0,.int .i64 v1,.int .i64 v2]]).bind fun r0=>
 cond (decide (D.toInt (nth r0 0)≤v3))
 ((go k impl_endOf [.agg [.int .i64 v0,.int .i64 v1,.int .i64 v2]]).bind fun r1=>
 some [.bool (decide (v3<D.toInt (nth r1 0)))])
 (some [.bool false]):=by kernel_rfl
def qy0 (x0 x1:Int)(z2:Bool)(l3:L3)(x4:Int):St:=⟨fill 19 [(0,.sl 0 none),(1,.fn impl_LeafAt_1 [.ptr 1 0 0]),(7,.int .i64 x0),(8,.int .i64 x1)],[],[.arr false z2 (.r3 l3),.box false [.int .i64 x4]]⟩
theorem qlq (k:Nat)(v0:Bool)(v1:L3)(v2:Int):go (k+1) slices_IndexFunc_impl_Id_impl_Id [.arr false v0 (.r3 v1),.fn impl_LeafAt_1 [.ptr false [.int .i64 v2]]]=
 lp k slices_IndexFunc_impl_Id_impl_Id [] [] 2 k (qy0 (nI (List.length v1)) 0 v0 v1 v2):=by kernel_rfl
theorem qrf (k n:Nat)(fu:FU)(x0 x1:Int)(z2:Bool)(l3:L3)(x4:Int):lp k slices_IndexFunc_impl_Id_impl_Id [] fu 2 (n+1) (qy0 x0 x1 z2 l3 x4)=
 cond (decide (x1<x0))
 (cond (decide (0≤x1)&&decide (x1<nI (List.length l3)))
 ((go k impl_LeafAt_1 [.agg [.int .i64 (Prod.fst (List.getD l3 (Int.toNat x1) zz3)),.int .i64 (Prod.fst (Prod.snd (List.getD l3 (Int.toNat x1) zz3))),.int .i64 (Prod.snd (Prod.snd (List.getD l3 (Int.toNat x1) zz3)))],.ptr false [.int .i64 x4]]).bind fun r0=>
 cond (bit (nth r0 0))
 (some [.int .i64 x1])
 (lp k slices_IndexFunc_impl_Id_impl_Id [] fu 2 n (qy0 x0 (IntKind.wrap .i64 (x1+1)) z2 l3 x4)))
 none)
 (some [.int .i64 ((-1:Int))]):=by kernel_rfl
def qza (x0 x1:Int)(z2:Bool)(l3:L3)(x4:Int):St:=⟨fill 36 [(1,.int .i64 x0),(2,.ptr 1 0 0),(5,.int .i64 x1)],[],[.arr false z2 (.r3 l3),.box true [.int .i64 x4,.sl 0 none]]⟩
theorem qmb (k:Nat)(a0:Int)(a1z:Bool)(a1:L3)(b:Int):go (k+1) spec_LeafAt [.agg [.int .i64 a0,.arr false a1z (.r3 a1)],.int .i64 b]=
 lp k spec_LeafAt [] [] 2 k (qza b 0 a1z a1 a0):=by kernel_rfl
theorem qrp (k n:Nat)(fu:FU)(x0 x1:Int)(z2:Bool)(l3:L3)(x4:Int):lp k spec_LeafAt [] fu 2 (n+1) (qza x0 x1 z2 l3 x4)=
 cond (decide (x1<nI (List.length l3)))
 ((go k spec_MeshOk [.agg [.int .i64 x4,.arr false z2 (.r3 l3)]]).bind fun r0=>
 cond (bit (nth r0 0))
 (cond (decide (0≤x1)&&decide (x1<nI (List.length l3)))
 ((go k spec_StartOf [.agg [.int .i64 (Prod.fst (List.getD l3 (Int.toNat x1) zz3)),.int .i64 (Prod.fst (Prod.snd (List.getD l3 (Int.toNat x1) zz3))),.int .i64 (Prod.snd (Prod.snd (List.getD l3 (Int.toNat x1) zz3)))]]).bind fun r1=>
 cond (decide (D.toInt (nth r1 0)≤x0))
 (cond (decide (0≤x1)&&decide (x1<nI (List.length l3)))
 ((go k spec_l04End [.agg [.int .i64 (Prod.fst (List.getD l3 (Int.toNat x1) zz3)),.int .i64 (Prod.fst (Prod.snd (List.getD l3 (Int.toNat x1) zz3))),.int .i64 (Prod.snd (Prod.snd (List.getD l3 (Int.toNat x1) zz3)))]]).bind fun r2=>
 cond (decide (x0<D.toInt (nth r2 0)))
 (some [.int .i64 x1])
 (lp k spec_LeafAt [] fu 2 n (qza x0 (IntKind.wrap .i64 (x1+1)) z2 l3 x4)))
 none)
 (lp k spec_LeafAt [] fu 2 n (qza x0 (IntKind.wrap .i64 (x1+1)) z2 l3 x4)))
 none)
 (some [.int .i64 ((-1:Int))]))
 (some [.int .i64 ((-1:Int))]):=by kernel_rfl

end Go.Proofs.YtjfjniebmdafeaaGreatDoor
end
section
namespace Go.Proofs.YtjfjniebmdafeaaGreatDoor
open Go.Ev
abbrev cst (x:Cell):Int:=q00 x.1 x.2.1 x.2.2
def qsf (pos:Int)(l:List Cell):Nat→Nat→Int
  | 0,_=> -1
  | n+1,i=>cond (decide (cst (l.getD i zz3)≤pos)&&decide (pos<cst (l.getD i zz3)+q2x (l.getD i zz3).2.1)) (i:Int) (qsf pos l n (i+1))
theorem qsg (pos:Int)(l:List Cell): ∀ (n i:Nat),-1≤qsf pos l n i∧qsf pos l n i<((i+n:Nat):Int)∧(0≤qsf pos l n i→(i:Int)≤qsf pos l n i)
  | 0,i=>by simp [qsf]; omega
  | n+1,i=>by
    have:=qsg pos l n (i+1)
    unfold qsf
    cases (decide (cst (l.getD i zz3)≤pos)&&decide (pos<cst (l.getD i zz3)+q2x (l.getD i zz3).2.1))
    · simp only [qic]; omega
    · simp only [qie]; omega
def qsd (r:Int)(l:List Cell)(pos:Int):Int:=cond (qu6 r 0 l) (qsf pos l l.length 0) (-1)
theorem qse (r:Int)(l:List Cell)(pos:Int): -1≤qsd r l pos∧qsd r l pos<l.length:=by
  unfold qsd
  cases qu6 r 0 l
  · simp; omega
  · have:=qsg pos l l.length 0; simp only [qie]; omega
theorem qb5 (k:Nat)(hk:2000000≤k)(a b c pos:Int):go (k+6) impl_LeafAt_1 [.agg [.int .i64 a,.int .i64 b,.int .i64 c],.ptr false [.int .i64 pos]]=some [.bool (decide (q00 a b c≤pos)&&decide (pos<q00 a b c+q2x b))]:=by
  rw [qjj]
  simp (disch:=omega) only [wk,bit,nI,qc6,qds,qig]
theorem qtf (k:Nat)(hk:2000000≤k)(fu:List (Nat×Nat))(z:Bool)(l:List Cell)(pos:Int)(hl:(l.length:Int)≤1048576): ∀ (n i:Nat),i≤l.length→l.length - i<n→
    lp (k+6) slices_IndexFunc_impl_Id_impl_Id [] fu 2 (n) (qy0 (l.length:Int) (i:Int) z l pos)=some [.int .i64 (qsf pos l (l.length - i) i)]
  | 0,i,hi,hn=>by omega
  | n+1,i,hi,hn=>by
    rw [qrf]
    by_cases h:i<l.length
    · have e:=qtf k hk fu z l pos hl n (i+1) (by omega) (by omega)
      rw [show l.length - i=(l.length - (i+1))+1 by omega,qsf]
      simp (disch:=omega) only [wk,bit,nI,e,qb5,cst]
      cases (decide (q00 (l.getD i zz3).1 (l.getD i zz3).2.1 (l.getD i zz3).2.2≤pos)&&decide (pos<q00 (l.getD i zz3).1 (l.getD i zz3).2.1 (l.getD i zz3).2.2+q2x (l.getD i zz3).2.1))<;>rfl
    · simp (disch:=omega) only [wk,bit,nI]
      rw [show l.length - i=0 by omega]; rfl
theorem qcq (k:Nat)(hk:2000000≤k)(a0:Int)(a1z:Bool)(a1:List (Int×Int×Int))(b:Int)(hl:(a1.length:Int)≤1048576):go (k+8) impl_LeafAt [(.agg [(.int .i64 (a0)),(.arr false (a1z) (.r3 (a1)))]),(.int .i64 (b))]=some [.int .i64 (qsd a0 a1 b)]:=by
  rw [qji]
  simp (disch:=omega) only [wk,bit,nI,qct]
  unfold qsd
  cases qu6 a0 0 a1
  · rfl
  rw [Bool.not_true,qic,qlq]
  have e:=qtf k hk [] a1z a1 b hl (k+6) 0 (by omega) (by omega)
  rw [show ((0:Nat):Int)=0 from rfl] at e
  simp (disch:=omega) only [wk,bit,nI,e]
  rfl
theorem qt7 (k:Nat)(hk:2000000≤k)(fu:List (Nat×Nat))(z:Bool)(r:Int)(l:List Cell)(pos:Int)(hl:(l.length:Int)≤1048576)(hm:qu6 r 0 l=true): ∀ (n i:Nat),i≤l.length→l.length - i<n→
    lp (k+5) spec_LeafAt [] fu 2 (n) (qza pos (i:Int) z l r)=some [.int .i64 (qsf pos l (l.length - i) i)]
  | 0,i,hi,hn=>by omega
  | n+1,i,hi,hn=>by
    rw [qrp]
    by_cases h:i<l.length
    · have e:=qt7 k hk fu z r l pos hl hm n (i+1) (by omega) (by omega)
      rw [show l.length - i=(l.length - (i+1))+1 by omega,qsf]
      simp (disch:=omega) only [wk,bit,nI,e,qfo,qfv,qga,hm,cst]
      cases decide (q00 (l.getD i zz3).1 (l.getD i zz3).2.1 (l.getD i zz3).2.2≤pos)<;>cases decide (pos<q00 (l.getD i zz3).1 (l.getD i zz3).2.1 (l.getD i zz3).2.2+q2x (l.getD i zz3).2.1)<;>rfl
    · simp (disch:=omega) only [wk,bit,nI]
      rw [show l.length - i=0 by omega]; rfl
theorem qfk (k:Nat)(hk:2000000≤k)(a0:Int)(a1z:Bool)(a1:List (Int×Int×Int))(b:Int)(hl:(a1.length:Int)≤1048576):go (k+6) spec_LeafAt [(.agg [(.int .i64 (a0)),(.arr false (a1z) (.r3 (a1)))]),(.int .i64 (b))]=some [.int .i64 (qsd a0 a1 b)]:=by
  rw [qmb]
  unfold qsd
  cases hm:qu6 a0 0 a1
  · rw [show k+5=(k+5 - 1)+1 by omega]
    rw [show lp (k+5 - 1+1)=lp (k+5) by rw [show k+5 - 1+1=k+5 by omega],qrp]
    by_cases h0:0<a1.length
    · simp (disch:=omega) only [wk,bit,nI,qfo,hm]
    · simp (disch:=omega) only [wk,bit,nI]
  exact qt7 k hk [] a1z a0 a1 b hl hm _ 0 (by omega) (by omega)
end Go.Proofs.YtjfjniebmdafeaaGreatDoor
end
section
namespace Go.Proofs.YtjfjniebmdafeaaGreatDoor
open Go.Ev
set_option maxRecDepth 20000
theorem qg1 (k:Nat)(hk:2000000≤k)(a0:Int)(a1z:Bool)(a1:List (Int×Int×Int))(a2z:Bool)(a2:List Int)(a3z:Bool)(a3:List Int)(a4z:Bool)(a4:List Int)(a5:Int)(a6:Int)(a7:Int)(a8:Int)(a9:Int)(a10:Int)(a11:Int)(a12:Int)(a13:Int)(a14:Int)(a15:Int)(a16:Int)(a17:Int)(a18:Int)(a19:Int)(a20:Int)(h1:(a1.length:Int)≤1048576)(h2:(a2.length:Int)≤1048576)(h3:(a3.length:Int)≤1048576)(h4:(a4.length:Int)≤1048576):go (k+3) spec_l36Copy [(.agg [(.int .i64 (a0)),(.arr false (a1z) (.r3 (a1))),(.arr false (a2z) (.ints .i64 (a2))),(.arr false (a3z) (.ints .i64 (a3))),(.arr false (a4z) (.ints .i64 (a4))),(.int .i64 (a5)),(.int .i64 (a6)),(.int .i64 (a7)),(.int .i64 (a8)),(.int .i64 (a9)),(.int .i64 (a10)),(.int .i64 (a11)),(.int .i64 (a12)),(.int .i64 (a13)),(.int .i64 (a14)),(.int .i64 (a15)),(.int .i64 (a16)),(.int .i64 (a17)),(.int .i64 (a18)),(.int .i64 (a19)),(.int .i64 (a20))])]=some [.agg [.int .i64 (a0),.arr true false (.r3 (a1)),.arr true false (.ints .i64 (a2)),.arr true false (.ints .i64 (a3)),.arr true false (.ints .i64 (a4)),.int .i64 (a5),.int .i64 (a6),.int .i64 (a7),.int .i64 (a8),.int .i64 (a9),.int .i64 (a10),.int .i64 (a11),.int .i64 (a12),.int .i64 (a13),.int .i64 (a14),.int .i64 (a15),.int .i64 (a16),.int .i64 (a17),.int .i64 (a18),.int .i64 (a19),.int .i64 (a20)]]:=by
  rw [qnu]
  simp (disch:=omega) only [wk,bit,nI,qgk]
theorem qdo (k:Nat)(hk:2000000≤k)(a0:Int)(a1:List Cell)(a2 a3 a4:List Int)(a5 a6 a7 a8 a9 a10 a11 a12 a13 a14 a15 a16 a17 a18 a19 a20:Int)(h1:(a1.length:Int)≤1048576)(h2:(a2.length:Int)≤1048576)(h3:(a3.length:Int)≤1048576)(h4:(a4.length:Int)≤1048576):go (k+4) impl_copyWorld [.agg [.int .i64 (a0),.arr false false (.r3 (a1)),.arr false false (.ints .i64 (a2)),.arr false false (.ints .i64 (a3)),.arr false false (.ints .i64 (a4)),.int .i64 (a5),.int .i64 (a6),.int .i64 (a7),.int .i64 (a8),.int .i64 (a9),.int .i64 (a10),.int .i64 (a11),.int .i64 (a12),.int .i64 (a13),.int .i64 (a14),.int .i64 (a15),.int .i64 (a16),.int .i64 (a17),.int .i64 (a18),.int .i64 (a19),.int .i64 (a20)]]=some [.agg [.int .i64 (a0),.arr true false (.r3 (a1)),.arr true false (.ints .i64 (a2)),.arr true false (.ints .i64 (a3)),.arr true false (.ints .i64 (a4)),.int .i64 (a5),.int .i64 (a6),.int .i64 (a7),.int .i64 (a8),.int .i64 (a9),.int .i64 (a10),.int .i64 (a11),.int .i64 (a12),.int .i64 (a13),.int .i64 (a14),.int .i64 (a15),.int .i64 (a16),.int .i64 (a17),.int .i64 (a18),.int .i64 (a19),.int .i64 (a20)]]:=by
  rw [qk4]
  simp (disch:=omega) only [wk,bit,nI,qdn]
def qiy (a0:Int)(a1:List Cell)(a2 a3 a4:List Int)(a5 a6 a7 a8 a9 a10 a11 a12 a13 a14 a15 a16 a17 a18 a19 a20 pos c d:Int):Bool:=
  q23 a0 a1 a2 a3 a4 a5 a6 a7 a8 a9 a10 a11 a12 a13 a14 a15 a16 a17 a18 a19 a20&&(inR c 1 10000&&(inR d 0 1000&&(decide (isum a2+c≤10000000)&&decide (0≤qsd a0 a1 pos))))
theorem q24 {a0:Int}{a1:List Cell}{a2 a3 a4:List Int}{a5 a6 a7 a8 a9 a10 a11 a12 a13 a14 a15 a16 a17 a18 a19 a20:Int}(h:q23 a0 a1 a2 a3 a4 a5 a6 a7 a8 a9 a10 a11 a12 a13 a14 a15 a16 a17 a18 a19 a20=true):
    StF a0 a1 a2 a3 a4∧(0≤a15∧a15≤1000000000000000)∧(0≤a16∧a16≤1000000000000000)∧(0≤a17∧a17≤1000000000000000)∧(0≤a18∧a18≤1000000000000000):=by
  simp only [q23,qsi,Bool.and_eq_true,qpe] at h
  exact ⟨stF.1 h.1,h.2.2.2.1.1,h.2.2.2.1.2.1,h.2.2.2.1.2.2.1,h.2.2.2.1.2.2.2⟩
theorem qvi {c d:Int}(h1:1≤c)(h2:c≤10000)(h3:0≤d)(h4:d≤1000):0≤c*d∧c*d≤10000000:=by
  refine ⟨Int.mul_nonneg (by omega) h3,?_⟩
  calc c*d≤10000*d:=Int.mul_le_mul_of_nonneg_right h2 h3
    _≤10000*1000:=Int.mul_le_mul_of_nonneg_left h4 (by omega)
theorem qe9 (k:Nat)(hk:2000000≤k)(a0:Int)(a1z:Bool)(a1:List (Int×Int×Int))(a2z:Bool)(a2:List Int)(a3z:Bool)(a3:List Int)(a4z:Bool)(a4:List Int)(a5:Int)(a6:Int)(a7:Int)(a8:Int)(a9:Int)(a10:Int)(a11:Int)(a12:Int)(a13:Int)(a14:Int)(a15:Int)(a16:Int)(a17:Int)(a18:Int)(a19:Int)(a20:Int)(b:Int)(c:Int)(d:Int)(h1:(a1.length:Int)≤1048576)(h2:(a2.length:Int)≤1048576)(h3:(a3.length:Int)≤1048576)(h4:(a4.length:Int)≤1048576):
    go (k+9) spec_Drop [(.agg [(.int .i64 (a0)),(.arr false (a1z) (.r3 (a1))),(.arr false (a2z) (.ints .i64 (a2))),(.arr false (a3z) (.ints .i64 (a3))),(.arr false (a4z) (.ints .i64 (a4))),(.int .i64 (a5)),(.int .i64 (a6)),(.int .i64 (a7)),(.int .i64 (a8)),(.int .i64 (a9)),(.int .i64 (a10)),(.int .i64 (a11)),(.int .i64 (a12)),(.int .i64 (a13)),(.int .i64 (a14)),(.int .i64 (a15)),(.int .i64 (a16)),(.int .i64 (a17)),(.int .i64 (a18)),(.int .i64 (a19)),(.int .i64 (a20))]),(.int .i64 (b)),(.int .i64 (c)),(.int .i64 (d))]=cond (qiy a0 a1 a2 a3 a4 a5 a6 a7 a8 a9 a10 a11 a12 a13 a14 a15 a16 a17 a18 a19 a20 b c d) (some [.agg [.int .i64 (a0),.arr true false (.r3 (a1)),.arr true false (.ints .i64 (a2.set (qsd a0 a1 b).toNat (a2.getD (qsd a0 a1 b).toNat 0+c))),.arr true false (.ints .i64 (a3.set (qsd a0 a1 b).toNat (a3.getD (qsd a0 a1 b).toNat 0+c*d))),.arr true false (.ints .i64 (a4)),.int .i64 (a5),.int .i64 (a6),.int .i64 (a7),.int .i64 (a8),.int .i64 (a9),.int .i64 (a10),.int .i64 (a11),.int .i64 (a12),.int .i64 (a13),.int .i64 (a14),.int .i64 (a15+c),.int .i64 (a16),.int .i64 (a17+c*d),.int .i64 (a18),.int .i64 (a19),.int .i64 (a20)],.bool true]) (some [.agg [.int .i64 (a0),.arr true false (.r3 (a1)),.arr true false (.ints .i64 (a2)),.arr true false (.ints .i64 (a3)),.arr true false (.ints .i64 (a4)),.int .i64 (a5),.int .i64 (a6),.int .i64 (a7),.int .i64 (a8),.int .i64 (a9),.int .i64 (a10),.int .i64 (a11),.int .i64 (a12),.int .i64 (a13),.int .i64 (a14),.int .i64 (a15),.int .i64 (a16),.int .i64 (a17),.int .i64 (a18),.int .i64 (a19),.int .i64 (a20)],.bool false]):=by
  rw [ql2]
  simp (disch:=omega) only [wk,bit,nI,qg1,qf1,qf7]
  unfold qiy
  cases g1:q23 a0 a1 a2 a3 a4 a5 a6 a7 a8 a9 a10 a11 a12 a13 a14 a15 a16 a17 a18 a19 a20
  · simp only [Bool.not_false,qie,qic,Bool.false_and]
  cases g2:inR c 1 10000
  · simp only [Bool.not_false,Bool.not_true,qie,qic,Bool.false_and,Bool.true_and]
  cases g3:inR d 0 1000
  · simp only [Bool.not_false,Bool.not_true,qie,qic,Bool.false_and,Bool.true_and]
  obtain ⟨F,b1,b2,b3,b4⟩:=q24 g1
  have:=F.len; have:=F.ml; have:=F.tl; have:=F.bl; have:=F.rr; have sm:=F.msum
  have i2:=qpe.1 g2; have i3:=qpe.1 g3
  have mm:=qvi i2.1 i2.2 i3.1 i3.2
  have lf:=qse a0 a1 b
  simp only [Bool.not_true,qic,Bool.true_and]
  rw [qgm _ (by omega) _ _ (by omega) F.mmem]
  by_cases q:isum a2+c≤10000000
  case neg=>simp (disch:=omega) only [wk,bit,nI]
  by_cases q2:0≤qsd a0 a1 b
  case neg=>simp (disch:=omega) only [wk,bit,nI,qfk]
  have fa:=F.at (qsd a0 a1 b).toNat
  obtain ⟨i,hi⟩: ∃ i:Nat,qsd a0 a1 b=(i:Int):=⟨(qsd a0 a1 b).toNat,by omega⟩
  rw [hi] at fa
  rw [Int.toNat_natCast] at fa
  simp (disch:=omega) only [wk,bit,nI,qfk,hi,qme,Int.add_zero]
theorem qcf (k:Nat)(hk:2000000≤k)(a0:Int)(a1:List Cell)(a2 a3 a4:List Int)(a5 a6 a7 a8 a9 a10 a11 a12 a13 a14 a15 a16 a17 a18 a19 a20 b c d:Int)(h1:(a1.length:Int)≤1048576)(h2:(a2.length:Int)≤1048576)(h3:(a3.length:Int)≤1048576)(h4:(a4.length:Int)≤1048576):
    go (k+10) impl_Drop [.agg [.int .i64 (a0),.arr false false (.r3 (a1)),.arr false false (.ints .i64 (a2)),.arr false false (.ints .i64 (a3)),.arr false false (.ints .i64 (a4)),.int .i64 (a5),.int .i64 (a6),.int .i64 (a7),.int .i64 (a8),.int .i64 (a9),.int .i64 (a10),.int .i64 (a11),.int .i64 (a12),.int .i64 (a13),.int .i64 (a14),.int .i64 (a15),.int .i64 (a16),.int .i64 (a17),.int .i64 (a18),.int .i64 (a19),.int .i64 (a20)],.int .i64 b,.int .i64 c,.int .i64 d]=cond (qiy a0 a1 a2 a3 a4 a5 a6 a7 a8 a9 a10 a11 a12 a13 a14 a15 a16 a17 a18 a19 a20 b c d) (some [.agg [.int .i64 (a0),.arr true false (.r3 (a1)),.arr true false (.ints .i64 (a2.set (qsd a0 a1 b).toNat (a2.getD (qsd a0 a1 b).toNat 0+c))),.arr true false (.ints .i64 (a3.set (qsd a0 a1 b).toNat (a3.getD (qsd a0 a1 b).toNat 0+c*d))),.arr true false (.ints .i64 (a4)),.int .i64 (a5),.int .i64 (a6),.int .i64 (a7),.int .i64 (a8),.int .i64 (a9),.int .i64 (a10),.int .i64 (a11),.int .i64 (a12),.int .i64 (a13),.int .i64 (a14),.int .i64 (a15+c),.int .i64 (a16),.int .i64 (a17+c*d),.int .i64 (a18),.int .i64 (a19),.int .i64 (a20)],.bool true]) (some [.agg [.int .i64 (a0),.arr true false (.r3 (a1)),.arr true false (.ints .i64 (a2)),.arr true false (.ints .i64 (a3)),.arr true false (.ints .i64 (a4)),.int .i64 (a5),.int .i64 (a6),.int .i64 (a7),.int .i64 (a8),.int .i64 (a9),.int .i64 (a10),.int .i64 (a11),.int .i64 (a12),.int .i64 (a13),.int .i64 (a14),.int .i64 (a15),.int .i64 (a16),.int .i64 (a17),.int .i64 (a18),.int .i64 (a19),.int .i64 (a20)],.bool false]):=by
  rw [qi9]
  simp (disch:=omega) only [wk,bit,nI,qdo,qdd,qep,qcq]
  unfold qiy
  have lf:=qse a0 a1 b
  cases g1:q23 a0 a1 a2 a3 a4 a5 a6 a7 a8 a9 a10 a11 a12 a13 a14 a15 a16 a17 a18 a19 a20
  · simp only [Bool.not_false,qie,qic,Bool.false_and]
  by_cases q2:0≤qsd a0 a1 b
  case neg=>simp (disch:=omega) only [wk,bit,nI]
  cases g2:inR c 1 10000
  · simp (disch:=omega) only [wk,bit,nI]
  cases g3:inR d 0 1000
  · simp (disch:=omega) only [wk,bit,nI]
  obtain ⟨F,b1,b2,b3,b4⟩:=q24 g1
  have:=F.len; have:=F.ml; have:=F.tl; have:=F.bl; have:=F.rr; have sm:=F.msum
  have i2:=qpe.1 g2; have i3:=qpe.1 g3
  have mm:=qvi i2.1 i2.2 i3.1 i3.2
  simp (disch:=omega) only [wk,bit,nI]
  rw [qel _ (by omega) _ _ (by omega) F.mmem]
  by_cases q:isum a2+c≤10000000
  case neg=>simp (disch:=omega) only [wk,bit,nI]
  have fa:=F.at (qsd a0 a1 b).toNat
  obtain ⟨i,hi⟩: ∃ i:Nat,qsd a0 a1 b=(i:Int):=⟨(qsd a0 a1 b).toNat,by omega⟩
  rw [hi] at fa
  rw [Int.toNat_natCast] at fa
  simp (disch:=omega) only [wk,bit,nI,hi]
end Go.Proofs.YtjfjniebmdafeaaGreatDoor
end
section
namespace Go.Proofs.YtjfjniebmdafeaaGreatDoor
open Go.Ev
set_option maxRecDepth 20000
structure Wd where
  r:Int
  s:S3
  b:List Int
  p:Pl
  k:Int
  ld:Ld
  f:Int
  g:Int
abbrev wdR (w:Wd):D:=.agg [.int .i64 (w.r),.arr false false (.r3 (w.s.1)),.arr false false (.ints .i64 (w.s.2.1)),.arr false false (.ints .i64 (w.s.2.2)),.arr false false (.ints .i64 (w.b)),.int .i64 (w.p.bi),.int .i64 (w.p.bs),.int .i64 (w.p.bo),.int .i64 (w.p.rain),.int .i64 (w.p.loss),.int .i64 (w.p.dec),.int .i64 (w.p.high),.int .i64 (w.p.low),.int .i64 (w.p.every),.int .i64 (w.k),.int .i64 (w.ld.mi),.int .i64 (w.ld.mo),.int .i64 (w.ld.ti),.int .i64 (w.ld.ou),.int .i64 (w.f),.int .i64 (w.g)]
abbrev wdO (w:Wd):D:=.agg [.int .i64 (w.r),.arr true false (.r3 (w.s.1)),.arr true false (.ints .i64 (w.s.2.1)),.arr true false (.ints .i64 (w.s.2.2)),.arr true false (.ints .i64 (w.b)),.int .i64 (w.p.bi),.int .i64 (w.p.bs),.int .i64 (w.p.bo),.int .i64 (w.p.rain),.int .i64 (w.p.loss),.int .i64 (w.p.dec),.int .i64 (w.p.high),.int .i64 (w.p.low),.int .i64 (w.p.every),.int .i64 (w.k),.int .i64 (w.ld.mi),.int .i64 (w.ld.mo),.int .i64 (w.ld.ti),.int .i64 (w.ld.ou),.int .i64 (w.f),.int .i64 (w.g)]
def wdOk (w:Wd):Bool:=q23 w.r w.s.1 w.s.2.1 w.s.2.2 w.b w.p.bi w.p.bs w.p.bo w.p.rain w.p.loss w.p.dec w.p.high w.p.low w.p.every w.k w.ld.mi w.ld.mo w.ld.ti w.ld.ou w.f w.g
structure Sml (w:Wd):Prop where
  h1:(w.s.1.length:Int)≤1048576
  h2:(w.s.2.1.length:Int)≤1048576
  h3:(w.s.2.2.length:Int)≤1048576
  h4:(w.b.length:Int)≤1048576
structure LdB (l:Ld) (B:Int):Prop where
  mi:0≤l.mi∧l.mi≤B
  mo:0≤l.mo∧l.mo≤B
  ti:0≤l.ti∧l.ti≤B
  ou:0≤l.ou∧l.ou≤B
theorem qwm {p:Pl}(h:qwn p.bi p.bs p.bo p.rain p.loss p.dec p.high p.low p.every=true):PlF p:=by
  simp only [qwn,qb2,Bool.and_eq_true,qpe] at h
  exact ⟨by omega,by omega,by omega,by omega,by omega,by omega,by omega,by omega,by omega⟩
structure WdF (w:Wd):Prop where
  F:StF w.r w.s.1 w.s.2.1 w.s.2.2 w.b
  P:PlF w.p
  k:0≤w.k∧w.k≤100000
  L:LdB w.ld 1000000000000000
  f:isum w.s.2.1 - w.ld.mi+w.ld.mo=w.f
  g:isum w.s.2.2 - w.ld.ti+w.ld.ou=w.g
theorem wdF {w:Wd}(h:wdOk w=true):WdF w:=by
  unfold wdOk q23 qsi at h
  simp only [Bool.and_eq_true,decide_eq_true_eq] at h
  obtain ⟨h1,h2,h3,⟨h4,h5,h6,h7⟩,h8,h9⟩:=h
  exact ⟨stF.1 h1,qwm h2,qpe.1 h3,⟨qpe.1 h4,qpe.1 h5,qpe.1 h6,qpe.1 h7⟩,h8,h9⟩
theorem StF.sml {w:Wd}(F:StF w.r w.s.1 w.s.2.1 w.s.2.2 w.b):Sml w:=by
  have:=F.len; have:=F.ml; have:=F.tl; have:=F.bl; have:=F.rr
  exact ⟨by omega,by omega,by omega,by omega⟩
def Wd.next (w:Wd):Wd:= { w with s:=(mac w.p w.b w.k w.s).1,k:=w.k+1,ld:=w.ld.add (mac w.p w.b w.k w.s).2 }
def advN:Nat→Wd→Wd
  | 0,w=>w
  | n+1,w=>advN n w.next
structure Adv (w:Wd) (i:Nat):Prop where
  F:StF w.r w.s.1 w.s.2.1 w.s.2.2 w.b
  P:PlF w.p
  k:0≤w.k∧w.k≤100000+i
  L:LdB w.ld (1000000000000000+40000000000*i)
theorem Adv.next {w:Wd}{i:Nat}(A:Adv w i):Adv w.next (i+1):=by
  have h:=quu (s:=w.s) A.F A.P w.k
  have a:=A.k; have l:=A.L; have q:=h.2
  have l1:=l.mi; have l2:=l.mo; have l3:=l.ti; have l4:=l.ou
  have q1:=q.mi; have q2:=q.mo; have q3:=q.ti; have q4:=q.ou
  refine ⟨h.1,A.P,?_,⟨?_,?_,?_,?_⟩⟩
  · show 0≤w.k+1∧w.k+1≤_; omega
  · show 0≤w.ld.mi+_∧w.ld.mi+_≤_; omega
  · show 0≤w.ld.mo+_∧w.ld.mo+_≤_; omega
  · show 0≤w.ld.ti+_∧w.ld.ti+_≤_; omega
  · show 0≤w.ld.ou+_∧w.ld.ou+_≤_; omega
theorem qa6: ∀ (n:Nat)(w:Wd)(i:Nat),Adv w i→Adv (advN n w) (i+n)
  | 0,w,i,A=>A
  | n+1,w,i,A=>by have:=qa6 n w.next (i+1) A.next; rw [show i+1+n=i+(n+1) by omega] at this; exact this
theorem qdp (k:Nat)(hk:2000000≤k)(w:Wd)(h:Sml w):go (k+4) impl_copyWorld [wdR w]=some [wdO w]:=qdo k hk _ _ _ _ _ _ _ _ _ _ _ _ _ _ _ _ _ _ _ _ _ h.h1 h.h2 h.h3 h.h4
theorem qg2 (k:Nat)(hk:2000000≤k)(w:Wd)(h:Sml w):go (k+3) spec_l36Copy [wdR w]=some [wdO w]:=qg1 k hk _ _ _ _ _ _ _ _ _ _ _ _ _ _ _ _ _ _ _ _ _ _ _ _ _ h.h1 h.h2 h.h3 h.h4
theorem qde (k:Nat)(hk:2000000≤k)(w:Wd)(h:Sml w):go (k+9) impl_WorldOk [wdR w]=some [.bool (wdOk w)]:=qdd k hk _ _ _ _ _ _ _ _ _ _ _ _ _ _ _ _ _ _ _ _ _ _ _ _ _ h.h1 h.h4
theorem qf2 (k:Nat)(hk:2000000≤k)(w:Wd)(h:Sml w):go (k+8) spec_WorldOk [wdR w]=some [.bool (wdOk w)]:=qf1 k hk _ _ _ _ _ _ _ _ _ _ _ _ _ _ _ _ _ _ _ _ _ _ _ _ _ h.h1 h.h4
set_option maxHeartbeats 1000000 in
theorem qte (k:Nat)(hk:2000000≤k)(fu:List (Nat×Nat))(c:Int)(hc:c≤100)(z2:Bool)(l3:List Cell)(z4:Bool)(l5:List Int)(z6:Bool)(l7:List Int)(z8:Bool)(l9:List Int)(x10 x11 x12 x13 x14 x15 x16 x17 x18 x19 x20 x21 x22 x23 x24 x25 x26:Int): ∀ (N n i:Nat)(w:Wd),(i:Int)+n=c→n<N→Adv w i→
    lp (k+11) impl_Advance [] fu 5 (N) (qx7 c (i:Int) z2 l3 z4 l5 z6 l7 z8 l9 x10 x11 x12 x13 x14 x15 x16 x17 x18 x19 x20 x21 x22 x23 x24 x25 x26 false w.s.1 false w.s.2.1 false w.s.2.2 false w.b w.r w.p.bi w.p.bs w.p.bo w.p.rain w.p.loss w.p.dec w.p.high w.p.low w.p.every w.k w.ld.mi w.ld.mo w.ld.ti w.ld.ou w.f w.g)=some [wdO (advN n w),.bool true]
  | 0,n,i,w,hi,hN,A=>by omega
  | N+1,0,i,w,hi,hN,A=>by
    rw [qqm]
    simp (disch:=omega) only [wk,bit,nI]; rfl
  | N+1,n+1,i,w,hi,hN,A=>by
    rw [qqm]
    have a:=A.k; have l:=A.L
    have h:=(quu (s:=w.s) A.F A.P w.k).2
    have l1:=l.mi; have l2:=l.mo; have l3' :=l.ti; have l4:=l.ou
    have q1:=h.mi; have q2:=h.mo; have q3:=h.ti; have q4:=h.ou
    have eM:=qeg k (by omega) w.r w.s w.b A.F w.p A.P w.k (by omega)
    have eL:=qcs (k+10) w.ld (mac w.p w.b w.k w.s).2 (by omega) (by omega) (by omega) (by omega)
    have IH:=qte k hk fu c hc z2 l3 z4 l5 z6 l7 z8 l9 x10 x11 x12 x13 x14 x15 x16 x17 x18 x19 x20 x21 x22 x23 x24 x25 x26 N n (i+1) w.next (by omega) (by omega) A.next
    rw [show advN (n+1) w=advN n w.next from rfl]
    simp only [Wd.next] at IH ⊢
    simp (disch:=omega) only [wk,bit,nI,eM,eL,qw2,qw3,qw4,qw5,qw6,IH]
set_option maxHeartbeats 1000000 in
theorem qt4 (k:Nat)(hk:2000000≤k)(fu:List (Nat×Nat))(c:Int)(hc:c≤100)(z2:Bool)(l3:List Cell)(z4:Bool)(l5:List Int)(z6:Bool)(l7:List Int)(z8:Bool)(l9:List Int)(x10 x11 x12 x13 x14 x15 x16 x17 x18 x19 x20 x21 x22 x23 x24 x25 x26:Int): ∀ (N n i:Nat)(w:Wd),(i:Int)+n=c→n<N→Adv w i→
    lp (k+8) spec_Advance [] fu 5 (N) (qy3 c (i:Int) z2 l3 z4 l5 z6 l7 z8 l9 x10 x11 x12 x13 x14 x15 x16 x17 x18 x19 x20 x21 x22 x23 x24 x25 x26 false w.s.1 false w.s.2.1 false w.s.2.2 false w.b w.r w.p.bi w.p.bs w.p.bo w.p.rain w.p.loss w.p.dec w.p.high w.p.low w.p.every w.k w.ld.mi w.ld.mo w.ld.ti w.ld.ou w.f w.g)=some [wdO (advN n w),.bool true]
  | 0,n,i,w,hi,hN,A=>by omega
  | N+1,0,i,w,hi,hN,A=>by
    rw [qri]
    have eC:=qg2 (k+5) (by omega) w A.F.sml
    simp (disch:=omega) only [wk,bit,nI,eC]
    rfl
  | N+1,n+1,i,w,hi,hN,A=>by
    rw [qri]
    have a:=A.k; have l:=A.L
    have h:=(quu (s:=w.s) A.F A.P w.k).2
    have l1:=l.mi; have l2:=l.mo; have l3' :=l.ti; have l4:=l.ou
    have q1:=h.mi; have q2:=h.mo; have q3:=h.ti; have q4:=h.ou
    have eM:=qgy k (by omega) w.r w.s w.b A.F w.p A.P w.k (by omega)
    have eL:=qfn (k+7) w.ld (mac w.p w.b w.k w.s).2 (by omega) (by omega) (by omega) (by omega)
    have IH:=qt4 k hk fu c hc z2 l3 z4 l5 z6 l7 z8 l9 x10 x11 x12 x13 x14 x15 x16 x17 x18 x19 x20 x21 x22 x23 x24 x25 x26 N n (i+1) w.next (by omega) (by omega) A.next
    rw [show advN (n+1) w=advN n w.next from rfl]
    simp only [Wd.next] at IH ⊢
    simp (disch:=omega) only [wk,bit,nI,eM,eL,IH]
def qa8 (w:Wd)(n:Int):Bool:=wdOk w&&inR n 0 100
def adv (w:Wd)(n:Int):Wd:=cond (qa8 w n) (advN n.toNat w) w
theorem WdF.adv {w:Wd}(h:WdF w):Adv w 0:=⟨h.F,h.P,by have:=h.k; omega,⟨by have:=h.L.mi; omega,by have:=h.L.mo; omega,by have:=h.L.ti; omega,by have:=h.L.ou; omega⟩⟩
theorem qb9 (k:Nat)(hk:2000000≤k)(w:Wd)(n:Int)(h:Sml w):go (k+12) impl_Advance [wdR w,.int .i64 n]=some [wdO (adv w n),.bool (qa8 w n)]:=by
  rw [qi3]
  have eC:=qdp (k+7) (by omega) w h
  have eO:=qde (k+2) (by omega) w h
  unfold adv qa8
  cases g:wdOk w
  · rw [g] at eO
    simp (disch:=omega) only [wk,bit,nI,eC,eO]
  rw [g] at eO
  cases g2:inR n 0 100
  · simp (disch:=omega) only [wk,bit,nI,eC,eO,qep,g2]
  have b:=qpe.1 g2
  have e:=qte k hk [] n b.2 true [] true [] true [] true [] 0 0 0 0 0 0 0 0 0 0 0 0 0 0 0 0 0 (k+11) n.toNat 0 w (by omega) (by omega) (wdF g).adv
  rw [show ((0:Nat):Int)=0 from rfl] at e
  simp (disch:=omega) only [wk,bit,nI,eC,eO,qep,g2]
  exact e
theorem qe1 (k:Nat)(hk:2000000≤k)(w:Wd)(n:Int)(h:Sml w):go (k+9) spec_Advance [wdR w,.int .i64 n]=some [wdO (adv w n),.bool (qa8 w n)]:=by
  rw [qlu]
  have eC:=qg2 (k+5) (by omega) w h
  have eO:=qf2 k (by omega) w h
  unfold adv qa8
  cases g:wdOk w
  · rw [g] at eO
    simp (disch:=omega) only [wk,bit,nI,eC,eO]
  rw [g] at eO
  cases g2:inR n 0 100
  · simp (disch:=omega) only [wk,bit,nI,eC,eO,qf7,g2]
  have b:=qpe.1 g2
  have e:=qt4 k hk [] n b.2 true [] true [] true [] true [] 0 0 0 0 0 0 0 0 0 0 0 0 0 0 0 0 0 (k+8) n.toNat 0 w (by omega) (by omega) (wdF g).adv
  rw [show ((0:Nat):Int)=0 from rfl] at e
  simp (disch:=omega) only [wk,bit,nI,eC,eO,qf7,g2]
  exact e
end Go.Proofs.YtjfjniebmdafeaaGreatDoor
end
section
namespace Go.Proofs.YtjfjniebmdafeaaGreatDoor
open Go.Ev
set_option maxRecDepth 20000
def sgl (c d:Int):Bool:=decide (c=0)&&decide (d=0)
def qav (a b c d:Int):Bool:=cond (decide (a=1)) (sgl c d&&inR b 1 20) (cond (decide (a=2)) (sgl c d&&inR b 0 10000) (cond (decide (a=3)) (sgl c d&&inR b 0 10000) (cond (decide (a=4)) (qb2 b c d) (cond (decide (a=5)) (sgl c d&&inR b 0 1000) (cond (decide (a=6)) (inR b 0 1000000&&(inR c 0 1000000&&inR d 0 100)) (cond (decide (a=7)) (inR b 0 127&&(inR c 1 10000&&inR d 0 1000)) false))))))
set_option maxHeartbeats 2000000 in
theorem qb8 (k:Nat)(hk:2000000≤k)(a0:Int)(a1:Int)(a2:Int)(a3:Int):go (k+3) impl_ActOk [(.agg [(.int .i64 (a0)),(.int .i64 (a1)),(.int .i64 (a2)),(.int .i64 (a3))])]=some [.bool (qav a0 a1 a2 a3)]:=by
  rw [qi2]
  unfold qav sgl
  by_cases hc:a2=0<;>by_cases hd:a3=0
  all_goals
    by_cases h1:a0=1
    · simp (disch:=omega) only [wk,bit,nI,qep]
    by_cases h2:a0=2
    · simp (disch:=omega) only [wk,bit,nI,qd2]
    by_cases h3:a0=3
    · simp (disch:=omega) only [wk,bit,nI,qd2]
    by_cases h4:a0=4
    · simp (disch:=omega) only [wk,bit,nI,qca]
    by_cases h5:a0=5
    · simp (disch:=omega) only [wk,bit,nI,qd3]
    by_cases h6:a0=6
    · simp (disch:=omega) only [wk,bit,nI,qep,qig]
    by_cases h7:a0=7
    · simp (disch:=omega) only [wk,bit,nI,qep,qig]
    simp (disch:=omega) only [wk,bit,nI]
set_option maxHeartbeats 2000000 in
theorem qe0 (k:Nat)(hk:2000000≤k)(a0:Int)(a1:Int)(a2:Int)(a3:Int):go (k+3) spec_ActOk [(.agg [(.int .i64 (a0)),(.int .i64 (a1)),(.int .i64 (a2)),(.int .i64 (a3))])]=some [.bool (qav a0 a1 a2 a3)]:=by
  rw [qlt]
  unfold qav sgl
  by_cases hc:a2=0<;>by_cases hd:a3=0
  all_goals
    by_cases h1:a0=1
    · simp (disch:=omega) only [wk,bit,nI,qnx,qf7]
    by_cases h2:a0=2
    · simp (disch:=omega) only [wk,bit,nI,qnx,qf7]
    by_cases h3:a0=3
    · simp (disch:=omega) only [wk,bit,nI,qnx,qf7]
    by_cases h4:a0=4
    · simp (disch:=omega) only [wk,bit,nI,qnx,qe3]
    by_cases h5:a0=5
    · simp (disch:=omega) only [wk,bit,nI,qnx,qf7]
    by_cases h6:a0=6
    · simp (disch:=omega) only [wk,bit,nI,qnx,qf7,qig]
    by_cases h7:a0=7
    · simp (disch:=omega) only [wk,bit,nI,qnx,qf7,qig]
    simp (disch:=omega) only [wk,bit,nI,qnx]
abbrev wdP (w:Wd):D:=.ptr true [.int .i64 w.r,.arr true false (.r3 w.s.1),.arr true false (.ints .i64 w.s.2.1),.arr true false (.ints .i64 w.s.2.2),.arr true false (.ints .i64 w.b),.int .i64 w.p.bi,.int .i64 w.p.bs,.int .i64 w.p.bo,.int .i64 w.p.rain,.int .i64 w.p.loss,.int .i64 w.p.dec,.int .i64 w.p.high,.int .i64 w.p.low,.int .i64 w.p.every,.int .i64 w.k,.int .i64 w.ld.mi,.int .i64 w.ld.mo,.int .i64 w.ld.ti,.int .i64 w.ld.ou,.int .i64 w.f,.int .i64 w.g]
def qi0 (w:Wd)(p m h:Int):Bool:=qiy w.r w.s.1 w.s.2.1 w.s.2.2 w.b w.p.bi w.p.bs w.p.bo w.p.rain w.p.loss w.p.dec w.p.high w.p.low w.p.every w.k w.ld.mi w.ld.mo w.ld.ti w.ld.ou w.f w.g p m h
def drp1 (w:Wd)(p m h:Int):Wd:= { w with s:=(w.s.1,w.s.2.1.set (qsd w.r w.s.1 p).toNat (w.s.2.1.getD (qsd w.r w.s.1 p).toNat 0+m),w.s.2.2.set (qsd w.r w.s.1 p).toNat (w.s.2.2.getD (qsd w.r w.s.1 p).toNat 0+m*h)),ld:= { w.ld with mi:=w.ld.mi+m,ti:=w.ld.ti+m*h } }
def drp (w:Wd)(p m h:Int):Wd:=cond (qi0 w p m h) (drp1 w p m h) w
theorem qcg (k:Nat)(hk:2000000≤k)(w:Wd)(p m h:Int)(S:Sml w):go (k+10) impl_Drop [wdR w,.int .i64 p,.int .i64 m,.int .i64 h]=some [wdO (drp w p m h),.bool (qi0 w p m h)]:=by
  have e:=qcf k hk w.r w.s.1 w.s.2.1 w.s.2.2 w.b w.p.bi w.p.bs w.p.bo w.p.rain w.p.loss w.p.dec w.p.high w.p.low w.p.every w.k w.ld.mi w.ld.mo w.ld.ti w.ld.ou w.f w.g p m h S.h1 S.h2 S.h3 S.h4
  refine e.trans ?_
  unfold drp
  cases g:qi0 w p m h
  · unfold qi0 at g; rw [g]; rfl
  · unfold qi0 at g; rw [g]; rfl
theorem qfa (k:Nat)(hk:2000000≤k)(w:Wd)(p m h:Int)(S:Sml w):go (k+9) spec_Drop [wdR w,.int .i64 p,.int .i64 m,.int .i64 h]=some [wdO (drp w p m h),.bool (qi0 w p m h)]:=by
  have e:=qe9 k hk w.r false w.s.1 false w.s.2.1 false w.s.2.2 false w.b w.p.bi w.p.bs w.p.bo w.p.rain w.p.loss w.p.dec w.p.high w.p.low w.p.every w.k w.ld.mi w.ld.mo w.ld.ti w.ld.ou w.f w.g p m h S.h1 S.h2 S.h3 S.h4
  refine e.trans ?_
  unfold drp
  cases g:qi0 w p m h
  · unfold qi0 at g; rw [g]; rfl
  · unfold qi0 at g; rw [g]; rfl
def actW (w:Wd)(a b c d:Int):Wd×Int:=
  if a=1 then (adv w b,isum (adv w b).s.2.1) else if a=2 then ({ w with p:= { w.p with rain:=b } },1) else if a=3 then ({ w with p:= { w.p with loss:=b } },1) else if a=4 then ({ w with p:= { w.p with bi:=b,bs:=c,bo:=d } },1) else
  if a=5 then ({ w with p:= { w.p with dec:=b } },1) else if a=6 then ({ w with p:= { w.p with high:=b,low:=c,every:=d } },(w.s.1.length:Int)) else (drp w b c d,cond (qi0 w b c d) 1 0)
def doW (w:Wd)(a b c d:Int):Wd×Int:=cond (wdOk w&&qav a b c d) (actW w a b c d) (w,-1)
theorem qa9 {w:Wd}(h:wdOk w=true)(n:Int):StF (adv w n).r (adv w n).s.1 (adv w n).s.2.1 (adv w n).s.2.2 (adv w n).b:=by
  unfold adv
  cases g:qa8 w n
  · exact (wdF h).F
  · exact (qa6 n.toNat w 0 (wdF h).adv).F
theorem qc9 (k:Nat)(hk:2000000≤k)(r:Int)(l:List Cell)(m t b:List Int)(F:StF r l m t b):go (k+9) impl_TotalMass [.agg [.int .i64 (r),.arr false (false) (.r3 (l)),.arr false (false) (.ints .i64 (m)),.arr false (false) (.ints .i64 (t)),.arr false (false) (.ints .i64 (b))]]=some [.int .i64 (isum m)]:=by
  rw [qkt]
  have:=F.len; have:=F.ml; have:=F.tl; have:=F.rr; have:=F.bl
  have g:=stF.2 F
  have eS:=qel (k+7) (by omega) false m (by omega) F.mmem
  simp (disch:=omega) only [wk,bit,nI,qc8,g,eS]
theorem qax {a b c d:Int}(h:qav a b c d=true):1≤a∧a≤7:=by
  unfold qav at h
  by_cases h1:a=1
  · omega
  by_cases h2:a=2
  · omega
  by_cases h3:a=3
  · omega
  by_cases h4:a=4
  · omega
  by_cases h5:a=5
  · omega
  by_cases h6:a=6
  · omega
  by_cases h7:a=7
  · omega
  rw [dF h1,dF h2,dF h3,dF h4,dF h5,dF h6,dF h7] at h
  cases h
set_option maxHeartbeats 2000000 in
theorem qdr (k:Nat)(hk:2000000≤k)(w:Wd)(a b c d:Int)(hw:wdOk w=true)(ha:qav a b c d=true):
    go (k+13) impl_World_do [wdP w,.agg [.int .i64 a,.int .i64 b,.int .i64 c,.int .i64 d]]=some [.int .i64 (actW w a b c d).2,wdP (actW w a b c d).1]:=by
  rw [qky]
  have F:=(wdF hw).F
  have S:=F.sml
  have L:=F.len
  have s1:=S.h1
  have kd:=qax ha
  unfold actW
  by_cases h1:a=1
  · have G:=qa9 hw b
    have eA:=qb9 k (by omega) w b S
    have eT:=qc9 (k+3) (by omega) _ _ _ _ _ G
    rw [if_pos h1]
    simp (disch:=omega) only [wk,bit,nI,eA,eT]
  rw [if_neg h1]
  by_cases h2:a=2
  · rw [if_pos h2]; simp (disch:=omega) only [wk,bit,nI]
  rw [if_neg h2]
  by_cases h3:a=3
  · rw [if_pos h3]; simp (disch:=omega) only [wk,bit,nI]
  rw [if_neg h3]
  by_cases h4:a=4
  · rw [if_pos h4]; simp (disch:=omega) only [wk,bit,nI]
  rw [if_neg h4]
  by_cases h5:a=5
  · rw [if_pos h5]; simp (disch:=omega) only [wk,bit,nI]
  rw [if_neg h5]
  by_cases h6:a=6
  · rw [if_pos h6]; simp (disch:=omega) only [wk,bit,nI]
  rw [if_neg h6]
  have h7:a=7:=by omega
  have eD:=qcg (k+2) (by omega) w b c d S
  cases g:qi0 w b c d
  · rw [g] at eD; simp (disch:=omega) only [wk,bit,nI,eD]
  · rw [g] at eD; simp (disch:=omega) only [wk,bit,nI,eD]
set_option maxHeartbeats 2000000 in
theorem qce (k:Nat)(hk:2000000≤k)(w:Wd)(a b c d:Int)(S:Sml w):
    go (k+14) impl_DoAct [wdR w,.agg [.int .i64 a,.int .i64 b,.int .i64 c,.int .i64 d]]=some [wdO (doW w a b c d).1,.int .i64 (doW w a b c d).2]:=by
  rw [qi8]
  have eC:=qdp (k+9) (by omega) w S
  have eO:=qde (k+4) (by omega) w S
  unfold doW
  cases g:wdOk w
  · rw [g] at eO
    simp (disch:=omega) only [wk,bit,nI,eC,eO]
  rw [g] at eO
  cases g2:qav a b c d
  · simp (disch:=omega) only [wk,bit,nI,eC,eO,qb8,g2]
  have eD:=qdr k (by omega) w a b c d g g2
  simp (disch:=omega) only [wk,bit,nI,eC,eO,qb8,g2,eD]
  rfl
set_option maxHeartbeats 2000000 in
theorem qe7 (k:Nat)(hk:2000000≤k)(w:Wd)(a b c d:Int)(S:Sml w):
    go (k+10) spec_DoAct [wdR w,.agg [.int .i64 a,.int .i64 b,.int .i64 c,.int .i64 d]]=some [wdO (doW w a b c d).1,.int .i64 (doW w a b c d).2]:=by
  rw [ql0]
  have eC:=qg2 (k+6) (by omega) w S
  have eO:=qf2 (k+1) (by omega) w S
  unfold doW
  cases g:wdOk w
  · rw [g] at eO
    simp (disch:=omega) only [wk,bit,nI,eC,eO]
  rw [g] at eO
  cases g2:qav a b c d
  · simp (disch:=omega) only [wk,bit,nI,eC,eO,qe0,g2]
  have F:=(wdF g).F
  have L:=F.len; have ml:=F.ml
  have kd:=qax g2
  simp only [Bool.and_self,qie]
  unfold actW
  by_cases h1:a=1
  · have G:=qa9 g b
    have GL:=G.len; have Gm:=G.ml
    have eA:=qe1 k (by omega) w b S
    have eT:=qgm (k+8) (by omega) false _ (by omega) G.mmem
    rw [if_pos h1]
    simp (disch:=omega) only [wk,bit,nI,eC,eO,qe0,g2,eA,eT]
  rw [if_neg h1]
  by_cases h2:a=2
  · rw [if_pos h2]; simp (disch:=omega) only [wk,bit,nI,eC,eO,qe0,g2]
  rw [if_neg h2]
  by_cases h3:a=3
  · rw [if_pos h3]; simp (disch:=omega) only [wk,bit,nI,eC,eO,qe0,g2]
  rw [if_neg h3]
  by_cases h4:a=4
  · rw [if_pos h4]; simp (disch:=omega) only [wk,bit,nI,eC,eO,qe0,g2]
  rw [if_neg h4]
  by_cases h5:a=5
  · rw [if_pos h5]; simp (disch:=omega) only [wk,bit,nI,eC,eO,qe0,g2]
  rw [if_neg h5]
  by_cases h6:a=6
  · rw [if_pos h6]; simp (disch:=omega) only [wk,bit,nI,eC,eO,qe0,g2,ml]
  rw [if_neg h6]
  have h7:a=7:=by omega
  have eD:=qfa k (by omega) w b c d S
  cases q:qi0 w b c d
  · rw [q] at eD; simp (disch:=omega) only [wk,bit,nI,eC,eO,qe0,g2,eD]
  · rw [q] at eD; simp (disch:=omega) only [wk,bit,nI,eC,eO,qe0,g2,eD]
end Go.Proofs.YtjfjniebmdafeaaGreatDoor
end
section
namespace Go.Proofs.YtjfjniebmdafeaaGreatDoor
open Go.Ev
set_option maxRecDepth 20000
def nmB (a:Int):List UInt8:=if a=1 then [114,117,110] else if a=2 then [114,97,105,110] else if a=3 then [108,111,115,115] else if a=4 then [102,108,111,119] else if a=5 then [100,101,99,97,121] else if a=6 then [109,101,115,104] else [100,114,111,112]
def actL (a b c d:Int):List UInt8:=if a=4∨a=6∨a=7 then spacedL (nmB a) [b,c,d] else spacedL (nmB a) [b]
theorem qa0 {a:Int}(h:1≤a∧a≤7):a=1∨a=2∨a=3∨a=4∨a=5∨a=6∨a=7:=by omega
theorem qay {a b c d:Int}(h:qav a b c d=true):1≤a∧a≤7:=by
  unfold qav at h
  refine Classical.byContradiction fun hh=> ?_
  have n1:¬ a=1:=by omega
  have n2:¬ a=2:=by omega
  have n3:¬ a=3:=by omega
  have n4:¬ a=4:=by omega
  have n5:¬ a=5:=by omega
  have n6:¬ a=6:=by omega
  have n7:¬ a=7:=by omega
  simp [n1,n2,n3,n4,n5,n6,n7] at h
theorem qaw {a b c d:Int}(h:qav a b c d=true):(1≤a∧a≤7)∧(0≤b∧b≤1000000)∧(0≤c∧c≤1000000)∧0≤d∧d≤1000000:=by
  have k:=qay h
  refine ⟨k,?_⟩
  rcases qa0 k with rfl | rfl | rfl | rfl | rfl | rfl | rfl<;>simp [qav,sgl,qb2,inR] at h<;>omega
theorem in64 {x:Int}(h:0≤x∧x≤1000000):inI64 x=true:=by
  unfold inI64; rw [decide_eq_true (by omega: -9223372036854775808≤x),decide_eq_true (by omega:x≤9223372036854775807)]; rfl
theorem y1:({ data:= #[(32:UInt8)] } :ByteArray)=ba [32]:=Eq.trans rfl rfl
theorem y2:({ data:= #[(114:UInt8),(117:UInt8),(110:UInt8)] } :ByteArray)=ba [114,117,110]:=Eq.trans rfl rfl
theorem y3:({ data:= #[(114:UInt8),(97:UInt8),(105:UInt8),(110:UInt8)] } :ByteArray)=ba [114,97,105,110]:=Eq.trans rfl rfl
theorem y4:({ data:= #[(108:UInt8),(111:UInt8),(115:UInt8),(115:UInt8)] } :ByteArray)=ba [108,111,115,115]:=Eq.trans rfl rfl
theorem y5:({ data:= #[(102:UInt8),(108:UInt8),(111:UInt8),(119:UInt8)] } :ByteArray)=ba [102,108,111,119]:=Eq.trans rfl rfl
theorem y6:({ data:= #[(100:UInt8),(101:UInt8),(99:UInt8),(97:UInt8),(121:UInt8)] } :ByteArray)=ba [100,101,99,97,121]:=Eq.trans rfl rfl
theorem y7:({ data:= #[(109:UInt8),(101:UInt8),(115:UInt8),(104:UInt8)] } :ByteArray)=ba [109,101,115,104]:=Eq.trans rfl rfl
theorem y8:({ data:= #[(100:UInt8),(114:UInt8),(111:UInt8),(112:UInt8)] } :ByteArray)=ba [100,114,111,112]:=Eq.trans rfl rfl
theorem y9:({ data:= #[(10:UInt8)] } :ByteArray)=ba [10]:=Eq.trans rfl rfl
theorem y0:({ data:= #[] } :ByteArray)=ba []:=Eq.trans rfl rfl
theorem qfc (k:Nat)(hk:2000000≤k)(a b c d:Int):go (k+4) spec_FormatAct [.agg [.int .i64 a,.int .i64 b,.int .i64 c,.int .i64 d]]=cond (qav a b c d) (some [.str (ba (actL a b c d)),.bool true]) (some [.str (ba []),.bool false]):=by
  rw [ql3]
  cases g:qav a b c d
  · simp (disch:=omega) only [wk,bit,nI,qe0,g,y0]
  have bd:=qaw g
  have sb:=qp3 b (in64 bd.2.1); have sc:=qp3 c (in64 bd.2.2.1); have sd:=qp3 d (in64 bd.2.2.2)
  have fb:=qfd (k+1) (by omega) b (in64 bd.2.1)
  have fc:=qfd (k+1) (by omega) c (in64 bd.2.2.1)
  have fd:=qfd (k+1) (by omega) d (in64 bd.2.2.2)
  rcases qa0 bd.1 with h | h | h | h | h | h | h
  · have e:actL a b c d=[114,117,110]++([32]++Lib.itoa b):=by subst h; simp [actL,nmB,spacedL]
    rw [e]
    simp (disch:=omega) only [wk,bit,nI,qe0,g,fb,fc,fd,y1,y2,y3,y4,y5,y6,y7,y8,qbh,qbk,List.length_append,List.length_cons,List.length_nil]
  · have e:actL a b c d=[114,97,105,110]++([32]++Lib.itoa b):=by subst h; simp [actL,nmB,spacedL]
    rw [e]
    simp (disch:=omega) only [wk,bit,nI,qe0,g,fb,fc,fd,y1,y2,y3,y4,y5,y6,y7,y8,qbh,qbk,List.length_append,List.length_cons,List.length_nil]
  · have e:actL a b c d=[108,111,115,115]++([32]++Lib.itoa b):=by subst h; simp [actL,nmB,spacedL]
    rw [e]
    simp (disch:=omega) only [wk,bit,nI,qe0,g,fb,fc,fd,y1,y2,y3,y4,y5,y6,y7,y8,qbh,qbk,List.length_append,List.length_cons,List.length_nil]
  · have e:actL a b c d=[102,108,111,119]++([32]++Lib.itoa b++[32]++Lib.itoa c++[32]++Lib.itoa d):=by subst h; simp [actL,nmB,spacedL]
    rw [e]
    simp (disch:=omega) only [wk,bit,nI,qe0,g,fb,fc,fd,y1,y2,y3,y4,y5,y6,y7,y8,qbh,qbk,List.length_append,List.length_cons,List.length_nil]
  · have e:actL a b c d=[100,101,99,97,121]++([32]++Lib.itoa b):=by subst h; simp [actL,nmB,spacedL]
    rw [e]
    simp (disch:=omega) only [wk,bit,nI,qe0,g,fb,fc,fd,y1,y2,y3,y4,y5,y6,y7,y8,qbh,qbk,List.length_append,List.length_cons,List.length_nil]
  · have e:actL a b c d=[109,101,115,104]++([32]++Lib.itoa b++[32]++Lib.itoa c++[32]++Lib.itoa d):=by subst h; simp [actL,nmB,spacedL]
    rw [e]
    simp (disch:=omega) only [wk,bit,nI,qe0,g,fb,fc,fd,y1,y2,y3,y4,y5,y6,y7,y8,qbh,qbk,List.length_append,List.length_cons,List.length_nil]
  · have e:actL a b c d=[100,114,111,112]++([32]++Lib.itoa b++[32]++Lib.itoa c++[32]++Lib.itoa d):=by subst h; simp [actL,nmB,spacedL]
    rw [e]
    simp (disch:=omega) only [wk,bit,nI,qe0,g,fb,fc,fd,y1,y2,y3,y4,y5,y6,y7,y8,qbh,qbk,List.length_append,List.length_cons,List.length_nil]
def NM:List ByteArray:=[ba [],ba [114,117,110],ba [114,97,105,110],ba [108,111,115,115],ba [102,108,111,119],ba [100,101,99,97,121],ba [109,101,115,104],ba [100,114,111,112]]
theorem qag:NM.length=8:=Eq.trans rfl rfl
theorem qaf {a:Int}(h:1≤a∧a≤7):List.getD NM (Int.toNat a) ByteArray.empty=ba (nmB a):=by
  rcases qa0 h with rfl | rfl | rfl | rfl | rfl | rfl | rfl<;>rfl
theorem qvp (a:Int):ByteArray.size (ba (nmB a))≤1000:=by
  rw [qbk]; unfold nmB
  repeat' split
  all_goals simp
theorem qdg (k:Nat):go (k+1) impl_actNames []=some [.arr true false (.strs NM)]:=by
  rw [qk0]; rfl
theorem qch (k:Nat)(hk:2000000≤k)(a b c d:Int):go (k+4) impl_FormatAct [.agg [.int .i64 a,.int .i64 b,.int .i64 c,.int .i64 d]]=cond (qav a b c d) (some [.str (ba (actL a b c d)),.bool true]) (some [.str (ba []),.bool false]):=by
  rw [qja]
  cases g:qav a b c d
  · simp (disch:=omega) only [wk,bit,nI,qb8,g,y0]
  have bd:=qaw g
  have na:=qaf bd.1
  have nl:((NM.length:Nat):Int)=8:=by rw [qag]; rfl
  have s1:=qek (k+2) (ba (nmB a)) false [b] (qvp a) (by simp) (by simp [in64 bd.2.1])
  have s3:=qek (k+2) (ba (nmB a)) false [b,c,d] (qvp a) (by simp) (by simp [in64 bd.2.1,in64 bd.2.2.1,in64 bd.2.2.2])
  rw [qbj] at s1 s3
  by_cases h:a=4∨a=6∨a=7
  · have e:actL a b c d=spacedL (nmB a) [b,c,d]:=if_pos h
    rw [e]
    rcases h with h | h | h
    · simp (disch:=omega) only [wk,bit,nI,qb8,g,qld,qdg,na,nl,s3,q1b]
    · simp (disch:=omega) only [wk,bit,nI,qb8,g,qld,qdg,na,nl,s3,q1b]
    · simp (disch:=omega) only [wk,bit,nI,qb8,g,qld,qdg,na,nl,s3,q1b]
  · have e:actL a b c d=spacedL (nmB a) [b]:=if_neg h
    rw [e]
    simp (disch:=omega) only [wk,bit,nI,qb8,g,qld,qdg,na,nl,s1,q1b]
end Go.Proofs.YtjfjniebmdafeaaGreatDoor
end
section
namespace Go.Proofs.YtjfjniebmdafeaaGreatDoor
open Go.Ev
set_option maxRecDepth 20000
abbrev aOk (x:Int×Int×Int×Int):Bool:=qav x.1 x.2.1 x.2.2.1 x.2.2.2
abbrev aL (x:Int×Int×Int×Int):List UInt8:=actL x.1 x.2.1 x.2.2.1 x.2.2.2
def scrL (l:List (Int×Int×Int×Int)):List UInt8:=l.flatMap fun x=>aL x++[10]
theorem qap {x:Int×Int×Int×Int}(h:aOk x=true):(aL x).length≤70:=by
  have bd:=qaw h
  have sb:=qp3 x.2.1 (in64 bd.2.1); have sc:=qp3 x.2.2.1 (in64 bd.2.2.1); have sd:=qp3 x.2.2.2 (in64 bd.2.2.2)
  have nl:(nmB x.1).length≤5:=by
    unfold nmB
    repeat' split
    all_goals simp
  unfold aL actL
  split<;>simp [spacedL]<;>omega
theorem qz0 (l:List (Int×Int×Int×Int))(i:Nat)(h:i<l.length):scrL (l.take (i+1))=scrL (l.take i)++(aL (l.getD i zz4)++[10]):=by
  have e:l.getD i zz4=l[i]:=by simp [List.getD_eq_getElem?_getD,h]
  unfold scrL
  rw [e,List.take_succ_eq_append_getElem h,List.flatMap_append]
  simp only [List.flatMap_cons,List.flatMap_nil,List.append_nil]
theorem qzz: ∀ (l:List (Int×Int×Int×Int)),l.all aOk=true→(scrL l).length≤71*l.length
  | [],h=>by simp [scrL]
  | x::l,h=>by
    rw [List.all_cons,Bool.and_eq_true] at h
    have a:=qap h.1; have b:=qzz l h.2
    have e:scrL (x::l)=aL x++[10]++scrL l:=by simp [scrL]
    rw [e]
    simp only [List.length_append,List.length_cons,List.length_nil] at*
    omega
theorem qbb {l:List (Int×Int×Int×Int)}{i:Nat}(h:(l.take i).all aOk=true)(hi:i<l.length)(hx:aOk (l.getD i zz4)=true):(l.take (i+1)).all aOk=true:=by
  have e:l.getD i zz4=l[i]:=by simp [List.getD_eq_getElem?_getD,hi]
  rw [List.take_succ_eq_append_getElem hi,List.all_append,h,← e,List.all_cons,List.all_nil,hx]
  rfl
def qpg (l:List UInt8):List Int:=l.map fun b=>(b.toNat:Int)
theorem qb4 (l:List UInt8):bytesL (ba l)=qpg l:=Eq.trans rfl rfl
theorem q1a (l:List UInt8):strL (qpg l)=ba l:=by
  unfold strL qpg
  rw [List.map_map]
  have:((fun n=>UInt8.ofNat (Int.toNat n)) ∘ fun (b:UInt8)=>(b.toNat:Int))=id:=by
    funext b; simp
  rw [this,List.map_id]
theorem qpi (a b:List UInt8):qpg a++qpg b=qpg (a++b):=by simp [qpg]
theorem qpl (a:List UInt8):(qpg a).length=a.length:=List.length_map ..
theorem qt2 (k:Nat)(hk:2000000≤k)(fu:List (Nat×Nat))(z:Bool)(l:List (Int×Int×Int×Int))(hl:l.length≤30): ∀ (N i:Nat),i≤l.length→l.length - i<N→(l.take i).all aOk=true→
    lp (k+4) spec_ScriptText [] fu 3 (N) (qze (i:Int) z l false (qpg (scrL (l.take i))))=cond ((l.drop i).all aOk) (some [.str (ba (scrL l)),.bool true]) (some [.str (ba []),.bool false])
  | 0,i,hi,hN,ha=>by omega
  | N+1,i,hi,hN,ha=>by
    rw [qrt]
    have sl:=qzz (l.take i) ha
    have tl:(l.take i).length=i:=by rw [List.length_take]; omega
    by_cases g:i<l.length
    · have f:=qfc k (by omega) (l.getD i zz4).1 (l.getD i zz4).2.1 (l.getD i zz4).2.2.1 (l.getD i zz4).2.2.2
      rw [qiz g zz4,List.all_cons]
      cases h:aOk (l.getD i zz4)
      · rw [show qav (l.getD i zz4).1 (l.getD i zz4).2.1 (l.getD i zz4).2.2.1 (l.getD i zz4).2.2.2=false from h] at f
        simp (disch:=omega) only [wk,bit,nI,f,y0]
      · rw [show qav (l.getD i zz4).1 (l.getD i zz4).2.1 (l.getD i zz4).2.2.1 (l.getD i zz4).2.2.2=true from h] at f
        have al:(actL (l.getD i zz4).1 (l.getD i zz4).2.1 (l.getD i zz4).2.2.1 (l.getD i zz4).2.2.2).length≤70:=qap h
        have IH:=qt2 k hk fu z l hl N (i+1) (by omega) (by omega) (qbb ha g h)
        rw [qz0 l i g] at IH
        have bl:bigLen=1099511627776:=rfl
        simp (disch:=omega) only [wk,bit,nI,f,y9,qbh,qbk,qb4,qpi,qpl,bl,List.length_append,List.length_cons,List.length_nil,IH]
    · rw [List.drop_of_length_le (by omega),List.take_of_length_le (by omega)]
      simp (disch:=omega) only [wk,bit,nI,List.all_nil,q1a]
theorem qfs (k:Nat)(hk:2000000≤k)(z:Bool)(l:List (Int×Int×Int×Int))(hl:l.length≤1048576):go (k+5) spec_ScriptText [.arr false z (.r4 l)]=cond (decide (l.length≤30)&&l.all aOk) (some [.str (ba (scrL l)),.bool true]) (some [.str (ba []),.bool false]):=by
  rw [qmj]
  by_cases h:l.length≤30
  · have e:=qt2 k hk [] z l h (k+4) 0 (by omega) (by omega) rfl
    rw [List.take_zero,List.drop_zero,show qpg (scrL [])=[] from rfl,show ((0:Nat):Int)=0 from rfl] at e
    simp (disch:=omega) only [wk,bit,nI,e]
  · have e:=qrt (k+4) (k+4 - 1) [] 0 z l false []
    rw [show k+4 - 1+1=k+4 by omega] at e
    have f:=qfc k (by omega) (l.getD 0 zz4).1 (l.getD 0 zz4).2.1 (l.getD 0 zz4).2.2.1 (l.getD 0 zz4).2.2.2
    have z0:Int.toNat 0=0:=Eq.trans rfl rfl
    rw [e]
    cases g:qav (l.getD 0 zz4).1 (l.getD 0 zz4).2.1 (l.getD 0 zz4).2.2.1 (l.getD 0 zz4).2.2.2
    · rw [g] at f
      simp (disch:=omega) only [wk,bit,nI,z0,f,y0]
    · rw [g] at f
      simp (disch:=omega) only [wk,bit,nI,z0,f,y0]
end Go.Proofs.YtjfjniebmdafeaaGreatDoor
end
section
namespace Go.Proofs.YtjfjniebmdafeaaGreatDoor
open Go.Ev
set_option maxRecDepth 20000
def dgS (x v m t:Int):Int:=Int.tmod (((x*31+v)*31+m)*31+t) 1000003
def dgA (l:List Cell)(m t:List Int):Nat→Int
  | 0=>1
  | n+1=>dgS (dgA l m t n) (qsj l n) (m.getD n 0) (t.getD n 0)
def dgB (x:Int)(b:List Int):Nat→Int
  | 0=>x
  | n+1=>Int.tmod (dgB x b n*31+b.getD n 0) 1000003
theorem q15 {x:Int}(h:0≤x):0≤Int.tmod x 1000003∧Int.tmod x 1000003≤1000002:=by
  rw [Int.tmod_eq_emod_of_nonneg h]; omega
theorem qir {r:Int}{l:List Cell}{m t b:List Int}(F:StF r l m t b): ∀ n,0≤dgA l m t n∧dgA l m t n≤1000002
  | 0=>⟨by show (0:Int)≤1; omega,by show (1:Int)≤1000002; omega⟩
  | n+1=>by
    have ih:=qir F n
    have a:=F.at n
    have lv:=qvc l r 0 F.mesh n
    unfold dgA dgS
    exact q15 (by omega)
theorem qis {r:Int}{l:List Cell}{m t b:List Int}(F:StF r l m t b)(x:Int)(hx:0≤x∧x≤1000002): ∀ n,0≤dgB x b n∧dgB x b n≤1000002
  | 0=>hx
  | n+1=>by
    have ih:=qis F x hx n
    have a:=F.bedAt n
    unfold dgB
    exact q15 (by omega)
def dig (l:List Cell)(m t b:List Int):Int:=dgB (dgA l m t l.length) b b.length
theorem qiv {r:Int}{l:List Cell}{m t b:List Int}(F:StF r l m t b):0≤dig l m t b∧dig l m t b≤1000002:=qis F _ (qir F _) _
theorem qt0 (k:Nat)(hk:2000000≤k)(fu:List (Nat×Nat))(r:Int)(z1 z2 z3 z4:Bool)(l:List Cell)(m t b:List Int)(F:StF r l m t b)(x:Int)(hx:0≤x∧x≤1000002): ∀ (N i:Nat),i≤b.length→b.length - i<N→
    lp (k+7) spec_DigestOf [] fu 9 (N) (qy6 (dgB x b i) (i:Int) z1 l z2 m z3 t z4 b r)=some [.int .i64 (dgB x b b.length)]
  | 0,i,hi,hN=>by omega
  | N+1,i,hi,hN=>by
    rw [qrl]
    have bd:=qis F x hx i; have ba:=F.bedAt i; have bl:=F.bl; have rr:=F.rr
    by_cases g:i<b.length
    · have IH:=qt0 k hk fu r z1 z2 z3 z4 l m t b F x hx N (i+1) (by omega) (by omega)
      rw [dgB] at IH
      simp (disch:=omega) only [wk,bit,nI,IH]
    · obtain rfl:i=b.length:=by omega
      simp (disch:=omega) only [wk,bit,nI]
theorem qtz (k:Nat)(hk:2000000≤k)(fu:List (Nat×Nat))(r:Int)(z1 z2 z3 z4:Bool)(l:List Cell)(m t b:List Int)(F:StF r l m t b): ∀ (N i:Nat),i≤l.length→l.length - i<N→
    lp (k+7) spec_DigestOf [] fu 5 (N) (qy5 (dgA l m t i) (i:Int) z1 l z2 m z3 t z4 b r)=some [.int .i64 (dig l m t b)]
  | 0,i,hi,hN=>by omega
  | N+1,i,hi,hN=>by
    rw [qrk]
    have bd:=qir F i; have a:=F.at i; have lv:=qvc l r 0 F.mesh i; have ml:=F.ml; have tl:=F.tl; have bl:=F.bl; have rr:=F.rr; have ll:=F.len
    simp only [qsj] at lv
    by_cases g:i<l.length
    · have IH:=qtz k hk fu r z1 z2 z3 z4 l m t b F N (i+1) (by omega) (by omega)
      rw [dgA,dgS] at IH
      simp only [qsj] at IH
      simp (disch:=omega) only [wk,bit,nI,IH]
    · obtain rfl:i=l.length:=by omega
      have e9:=qt0 k hk fu r z1 z2 z3 z4 l m t b F (dgA l m t l.length) bd (k+7) 0 (by omega) (by omega)
      rw [show dgB (dgA l m t l.length) b 0=dgA l m t l.length from rfl,show ((0:Nat):Int)=0 from rfl] at e9
      simp (disch:=omega) only [wk,bit,nI,e9]
      rfl
theorem qe5 (k:Nat)(hk:2000000≤k)(r:Int)(z1 z2 z3 z4:Bool)(l:List Cell)(m t b:List Int)(F:StF r l m t b):go (k+8) spec_DigestOf [.agg [.int .i64 (r),.arr false (z1) (.r3 (l)),.arr false (z2) (.ints .i64 (m)),.arr false (z3) (.ints .i64 (t)),.arr false (z4) (.ints .i64 (b))]]=some [.int .i64 (dig l m t b)]:=by
  rw [qly]
  have ll:=F.len; have bl:=F.bl; have rr:=F.rr
  have eS:=qfw k (by omega) r z1 l z2 m z3 t z4 b (by omega) (by omega)
  rw [stF.2 F] at eS
  have e:=qtz k hk [] r z1 z2 z3 z4 l m t b F (k+7) 0 (by omega) (by omega)
  rw [show dgA l m t 0=1 from rfl,show ((0:Nat):Int)=0 from rfl] at e
  simp (disch:=omega) only [wk,bit,nI,eS]
  exact e
theorem qs8 (k:Nat)(hk:2000000≤k)(fu:List (Nat×Nat))(r:Int)(z4:Bool)(l:List Cell)(m t b:List Int)(F:StF r l m t b)(x:Int)(hx:0≤x∧x≤1000002): ∀ (N i:Nat),i≤b.length→b.length - i<N→
    lp (k+8) impl_DigestOf [] fu 10 (N) (qx8 (dgB x b i) (b.length:Int) (i:Int) z4 b)=some [.int .i64 (dgB x b b.length)]
  | 0,i,hi,hN=>by omega
  | N+1,i,hi,hN=>by
    rw [qqn]
    have bd:=qis F x hx i; have ba:=F.bedAt i; have bl:=F.bl; have rr:=F.rr
    by_cases g:i<b.length
    · have IH:=qs8 k hk fu r z4 l m t b F x hx N (i+1) (by omega) (by omega)
      rw [dgB] at IH
      simp (disch:=omega) only [wk,bit,nI,IH]
    · obtain rfl:i=b.length:=by omega
      simp (disch:=omega) only [wk,bit,nI]
theorem qs9 (k:Nat)(hk:2000000≤k)(fu:List (Nat×Nat))(r:Int)(z1 z2 z3 z4:Bool)(l:List Cell)(m t b:List Int)(F:StF r l m t b): ∀ (N i:Nat),i≤l.length→l.length - i<N→
    lp (k+8) impl_DigestOf [] fu 5 (N) (qx9 (dgA l m t i) (l.length:Int) (i:Int) z1 l z2 m z3 t z4 b r)=some [.int .i64 (dig l m t b)]
  | 0,i,hi,hN=>by omega
  | N+1,i,hi,hN=>by
    rw [qqo]
    have bd:=qir F i; have a:=F.at i; have lv:=qvc l r 0 F.mesh i; have ml:=F.ml; have tl:=F.tl; have bl:=F.bl; have rr:=F.rr; have ll:=F.len
    simp only [qsj] at lv
    by_cases g:i<l.length
    · have IH:=qs9 k hk fu r z1 z2 z3 z4 l m t b F N (i+1) (by omega) (by omega)
      rw [dgA,dgS] at IH
      simp only [qsj] at IH
      simp (disch:=omega) only [wk,bit,nI,IH]
    · obtain rfl:i=l.length:=by omega
      have e9:=qs8 k hk fu r z4 l m t b F (dgA l m t l.length) bd (k+8) 0 (by omega) (by omega)
      rw [show dgB (dgA l m t l.length) b 0=dgA l m t l.length from rfl,show ((0:Nat):Int)=0 from rfl] at e9
      simp (disch:=omega) only [wk,bit,nI,e9]
      rfl
theorem qcc (k:Nat)(hk:2000000≤k)(r:Int)(z1 z2 z3 z4:Bool)(l:List Cell)(m t b:List Int)(F:StF r l m t b):go (k+9) impl_DigestOf [.agg [.int .i64 (r),.arr false (z1) (.r3 (l)),.arr false (z2) (.ints .i64 (m)),.arr false (z3) (.ints .i64 (t)),.arr false (z4) (.ints .i64 (b))]]=some [.int .i64 (dig l m t b)]:=by
  rw [qi6]
  have ll:=F.len; have bl:=F.bl; have rr:=F.rr
  have eS:=qc8 k (by omega) r z1 l z2 m z3 t z4 b (by omega) (by omega)
  rw [stF.2 F] at eS
  have e:=qs9 k hk [] r z1 z2 z3 z4 l m t b F (k+8) 0 (by omega) (by omega)
  rw [show dgA l m t 0=1 from rfl,show ((0:Nat):Int)=0 from rfl] at e
  simp (disch:=omega) only [wk,bit,nI,eS]
  exact e
theorem qsk {v:Int}(h:0≤v∧v≤4):IntKind.wrap IntKind.u8 (48+v)=48+v:=q25 (by omega) (by omega)
theorem qp1 {v:Int}(h:0≤v∧v≤4):Lib.itoa v=[UInt8.ofNat (48+v.toNat)]:=by
  unfold Lib.itoa
  rw [if_neg (by omega)]
  exact Lib.decDigits_one (by omega)
theorem qpk {v:Int}(h:0≤v∧v≤4):[48+v]=qpg (Lib.itoa v):=by
  rw [qp1 h]
  have:v=0∨v=1∨v=2∨v=3∨v=4:=by omega
  rcases this with rfl | rfl | rfl | rfl | rfl<;>rfl
theorem qt1 (k:Nat)(hk:2000000≤k)(fu:List (Nat×Nat))(z:Bool)(r:Int)(l:List Cell)(g:qu6 r 0 l=true): ∀ (N i:Nat)(b:Bool),i≤l.length→l.length - i<N→
    lp (k+5) spec_FormatMesh [] fu 3 (N) (qy9 (i:Int) z l r b (qpg (fmTo l i)))=some [.str (ba (fmTo l l.length))]
  | 0,i,b,hi,hN=>by omega
  | N+1,i,b,hi,hN=>by
    rw [qro]
    have L:=qvb g
    have lv:=qvc l r 0 g i
    simp only [qsj] at lv
    have ln:=qoj l (fun i hi=>by
      have h:=qvc l r 0 g i
      simp only [qsj] at h
      unfold inI64
      rw [decide_eq_true (by omega: -9223372036854775808≤(l.getD i zz3).2.1),decide_eq_true (by omega:(l.getD i zz3).2.1≤9223372036854775807)]; rfl) i hi
    have li:=qpl (fmTo l i)
    have bl:bigLen=1099511627776:=rfl
    have wd:=qsk lv
    by_cases h:i<l.length
    · have IH:=fun b=>qt1 k hk fu z r l g N (i+1) b (by omega) (by omega)
      have eM:=qfo k (by omega) r z l (by omega)
      rw [g] at eM
      have dg:=qpk lv
      by_cases h0:i=0
      · subst h0
        have e:qpg (fmTo l (0+1))=qpg (fmTo l 0)++[48+(l.getD 0 zz3).2.1]:=by
          rw [dg,qpi]; show qpg (fmTo l 0++fmB l 0)=_; unfold fmB; rw [if_neg (by omega),List.nil_append]
        rw [e] at IH
        simp (disch:=omega) only [wk,bit,nI,eM,wd,bl,li,List.length_append,List.length_cons,List.length_nil]
        exact IH _
      · have ci:(i:Int) - 1=((i - 1:Nat):Int):=by omega
        by_cases q:(l.getD i zz3).1=(l.getD (i - 1) zz3).1
        · have e:qpg (fmTo l (i+1))=qpg (fmTo l i)++[48+(l.getD i zz3).2.1]:=by
            rw [dg,qpi]; show qpg (fmTo l i++fmB l i)=_; unfold fmB; rw [if_neg (fun h=>h.2 q),List.nil_append]
          rw [e] at IH
          have q' :decide ((l.getD i zz3).1=(l.getD (i - 1) zz3).1)=true:=decide_eq_true q
          simp (disch:=omega) only [wk,bit,nI,eM,wd,bl,li,ci,q',List.length_append,List.length_cons,List.length_nil]
          exact IH _
        · have e:qpg (fmTo l (i+1))=qpg (fmTo l i)++[124]++[48+(l.getD i zz3).2.1]:=by
            rw [dg,show ([124]:List Int)=qpg [124] from rfl,qpi,qpi]; show qpg (fmTo l i++fmB l i)=_; unfold fmB; rw [if_pos ⟨by omega,q⟩,List.append_assoc]
          rw [e] at IH
          have q' :decide ((l.getD i zz3).1=(l.getD (i - 1) zz3).1)=false:=decide_eq_false q
          simp (disch:=omega) only [wk,bit,nI,eM,wd,bl,li,ci,q',List.length_append,List.length_cons,List.length_nil]
          exact IH _
    · obtain rfl:i=l.length:=by omega
      simp (disch:=omega) only [wk,bit,nI,q1a]
theorem qok {r:Int}{l:List Cell}(g:qu6 r 0 l=true):fmeshL r l=fmTo l l.length:=by unfold fmeshL; rw [qvd,g]; rfl
theorem qfe (k:Nat)(hk:2000000≤k)(r:Int)(z:Bool)(l:List Cell)(g:qu6 r 0 l=true):go (k+6) spec_FormatMesh [.agg [.int .i64 r,.arr false z (.r3 l)]]=some [.str (ba (fmeshL r l))]:=by
  rw [ql5,qok g]
  have e:=qt1 k hk [] z r l g (k+5) 0 false (by omega) (by have:=qvb g; omega)
  rw [show qpg (fmTo l 0)=[] from rfl,show ((0:Nat):Int)=0 from rfl] at e
  exact e
def ln (w:List UInt8)(x:Int):List UInt8:=spacedL w [x]
def fwL (w:Wd):List ByteArray:=[ba (ln [115,116,101,112] w.k),ba ([109,101,115,104,32]++fmeshL w.r w.s.1),ba (ln [109,97,115,115] (isum w.s.2.1)),ba (ln [116,114,97,99,101,114] (isum w.s.2.2)),ba (ln [105,110] w.ld.mi),ba (ln [111,117,116] w.ld.mo),ba (ln [100,105,103,101,115,116] (dig w.s.1 w.s.2.1 w.s.2.2 w.b))]
def fwT (w:Wd):List ByteArray:=cond (wdOk w) (fwL w) []
theorem qpc {x:Int}(h: -1000000000000000000≤x∧x≤1000000000000000000):inI64 x=true:=by
  unfold inI64; rw [decide_eq_true (by omega: -9223372036854775808≤x),decide_eq_true (by omega:x≤9223372036854775807)]; rfl
theorem qon {r:Int}{l:List Cell}(g:qu6 r 0 l=true):(fmeshL r l).length≤5000:=by
  rw [qok g]
  have L:=qvb g
  have ln:=qoj l (fun i hi=>by
      have h:=qvc l r 0 g i
      simp only [qsj] at h
      exact qpc (by omega)) l.length (Nat.le_refl _)
  omega
theorem qff (k:Nat)(hk:2000000≤k)(w:Wd)(S:Sml w):go (k+9) spec_FormatWorld [wdR w]=some [.arr true false (.strs (fwT w))]:=by
  rw [ql6]
  have h1:=S.h1; have h2:=S.h2; have h3:=S.h3; have h4:=S.h4
  have eW:=qf1 k (by omega) w.r false w.s.1 false w.s.2.1 false w.s.2.2 false w.b w.p.bi w.p.bs w.p.bo w.p.rain w.p.loss w.p.dec w.p.high w.p.low w.p.every w.k w.ld.mi w.ld.mo w.ld.ti w.ld.ou w.f w.g (by omega) (by omega)
  rw [show q23 w.r w.s.1 w.s.2.1 w.s.2.2 w.b w.p.bi w.p.bs w.p.bo w.p.rain w.p.loss w.p.dec w.p.high w.p.low w.p.every w.k w.ld.mi w.ld.mo w.ld.ti w.ld.ou w.f w.g=wdOk w from rfl] at eW
  unfold fwT
  cases g:wdOk w
  · rw [g] at eW
    simp (disch:=omega) only [wk,bit,nI,eW]
  rw [g] at eW
  have F:=wdF g
  have s1:=qps _ F.F.mmem; have s2:=qps _ F.F.tmem
  have ll:=F.F.len; have ml:=F.F.ml; have tl:=F.F.tl; have bl:=F.F.bl; have rr:=F.F.rr
  have k0:=F.k; have l1:=F.L.mi; have l2:=F.L.mo
  have db:=qiv F.F
  have fz:=qon F.F.mesh
  have i1:inI64 w.k=true:=qpc (by omega)
  have i2:inI64 (isum w.s.2.1)=true:=qpc (by omega)
  have i3:inI64 (isum w.s.2.2)=true:=qpc (by omega)
  have i4:inI64 w.ld.mi=true:=qpc (by omega)
  have i5:inI64 w.ld.mo=true:=qpc (by omega)
  have i6:inI64 (dig w.s.1 w.s.2.1 w.s.2.2 w.b)=true:=qpc (by omega)
  have a1:=qfd (k+6) (by omega) _ i1
  have a2:=qfd (k+6) (by omega) _ i2
  have a3:=qfd (k+6) (by omega) _ i3
  have a4:=qfd (k+6) (by omega) _ i4
  have a5:=qfd (k+6) (by omega) _ i5
  have a6:=qfd (k+6) (by omega) _ i6
  have z1:=qp3 _ i1; have z2:=qp3 _ i2; have z3:=qp3 _ i3; have z4:=qp3 _ i4; have z5:=qp3 _ i5; have z6:=qp3 _ i6
  have b1:=qgm (k+7) (by omega) false w.s.2.1 (by omega) F.F.mmem
  have b2:=qgm (k+7) (by omega) false w.s.2.2 (by omega) F.F.tmem
  have b3:=qfe (k+2) (by omega) w.r false w.s.1 F.F.mesh
  have b4:=qe5 k (by omega) w.r false false false false w.s.1 w.s.2.1 w.s.2.2 w.b F.F
  have q1:({ data:= #[(115:UInt8),(116:UInt8),(101:UInt8),(112:UInt8),(32:UInt8)] } :ByteArray)=ba [115,116,101,112,32]:=Eq.trans rfl rfl
  have q2:({ data:= #[(109:UInt8),(101:UInt8),(115:UInt8),(104:UInt8),(32:UInt8)] } :ByteArray)=ba [109,101,115,104,32]:=Eq.trans rfl rfl
  have q3:({ data:= #[(109:UInt8),(97:UInt8),(115:UInt8),(115:UInt8),(32:UInt8)] } :ByteArray)=ba [109,97,115,115,32]:=Eq.trans rfl rfl
  have q4:({ data:= #[(116:UInt8),(114:UInt8),(97:UInt8),(99:UInt8),(101:UInt8),(114:UInt8),(32:UInt8)] } :ByteArray)=ba [116,114,97,99,101,114,32]:=Eq.trans rfl rfl
  have q5:({ data:= #[(105:UInt8),(110:UInt8),(32:UInt8)] } :ByteArray)=ba [105,110,32]:=Eq.trans rfl rfl
  have q6:({ data:= #[(111:UInt8),(117:UInt8),(116:UInt8),(32:UInt8)] } :ByteArray)=ba [111,117,116,32]:=Eq.trans rfl rfl
  have q7:({ data:= #[(100:UInt8),(105:UInt8),(103:UInt8),(101:UInt8),(115:UInt8),(116:UInt8),(32:UInt8)] } :ByteArray)=ba [100,105,103,101,115,116,32]:=Eq.trans rfl rfl
  simp (disch:=omega) only [wk,bit,nI,eW,a1,b3,b1,a2,b2,a3,a4,a5,b4,a6,q1,q2,q3,q4,q5,q6,q7,qbh,qbk,List.length_append,List.length_cons,List.length_nil]
  simp [fwL,ln,spacedL]
theorem qck (k:Nat)(hk:2000000≤k)(w:Wd)(S:Sml w):go (k+10) impl_FormatWorld [wdR w]=some [.arr true (!wdOk w) (.strs (fwT w))]:=by
  rw [qjc]
  have h1:=S.h1; have h2:=S.h2; have h3:=S.h3; have h4:=S.h4
  have eW:=qdd k (by omega) w.r false w.s.1 false w.s.2.1 false w.s.2.2 false w.b w.p.bi w.p.bs w.p.bo w.p.rain w.p.loss w.p.dec w.p.high w.p.low w.p.every w.k w.ld.mi w.ld.mo w.ld.ti w.ld.ou w.f w.g (by omega) (by omega)
  rw [show q23 w.r w.s.1 w.s.2.1 w.s.2.2 w.b w.p.bi w.p.bs w.p.bo w.p.rain w.p.loss w.p.dec w.p.high w.p.low w.p.every w.k w.ld.mi w.ld.mo w.ld.ti w.ld.ou w.f w.g=wdOk w from rfl] at eW
  unfold fwT
  cases g:wdOk w
  · rw [g] at eW
    simp (disch:=omega) only [wk,bit,nI,eW]
  rw [g] at eW
  have F:=wdF g
  have s1:=qps _ F.F.mmem; have s2:=qps _ F.F.tmem
  have ll:=F.F.len; have ml:=F.F.ml; have tl:=F.F.tl; have bl:=F.F.bl; have rr:=F.F.rr
  have k0:=F.k; have l1:=F.L.mi; have l2:=F.L.mo
  have db:=qiv F.F
  have fz:=qon F.F.mesh
  have i1:inI64 w.k=true:=qpc (by omega)
  have i2:inI64 (isum w.s.2.1)=true:=qpc (by omega)
  have i3:inI64 (isum w.s.2.2)=true:=qpc (by omega)
  have i4:inI64 w.ld.mi=true:=qpc (by omega)
  have i5:inI64 w.ld.mo=true:=qpc (by omega)
  have i6:inI64 (dig w.s.1 w.s.2.1 w.s.2.2 w.b)=true:=qpc (by omega)
  have sp:=fun (wd:List UInt8)(x:Int)(h:wd.length≤1000)(hx:inI64 x=true)=>qek (k+8) (ba wd) false [x] (by rw [qbk]; exact h) (by simp) (by simp [hx])
  have a1:=sp [115,116,101,112] _ (by decide) i1
  have a2:=sp [109,97,115,115] _ (by decide) i2
  have a3:=sp [116,114,97,99,101,114] _ (by decide) i3
  have a4:=sp [105,110] _ (by decide) i4
  have a5:=sp [111,117,116] _ (by decide) i5
  have a6:=sp [100,105,103,101,115,116] _ (by decide) i6
  clear sp
  simp only [qbj] at a1 a2 a3 a4 a5 a6
  have b1:=qel (k+8) (by omega) false w.s.2.1 (by omega) F.F.mmem
  have b2:=qel (k+8) (by omega) false w.s.2.2 (by omega) F.F.tmem
  have b3:=qcj (k+8) w.r false w.s.1 (by omega)
  have b4:=qcc k (by omega) w.r false false false false w.s.1 w.s.2.1 w.s.2.2 w.b F.F
  have q2:({ data:= #[(109:UInt8),(101:UInt8),(115:UInt8),(104:UInt8),(32:UInt8)] } :ByteArray)=ba [109,101,115,104,32]:=Eq.trans rfl rfl
  simp (disch:=omega) only [wk,bit,nI,eW,a1,b3,b1,a2,b2,a3,a4,a5,b4,a6,q2,qbh,qbk,List.length_append,List.length_cons,List.length_nil]
  rfl
end Go.Proofs.YtjfjniebmdafeaaGreatDoor
end
section
namespace Go.Proofs.YtjfjniebmdafeaaGreatDoor
open Go.Ev
set_option maxRecDepth 20000
theorem qj4 (k:Nat)(a:ByteArray):go (k+1) impl_SplitFields [.str a]=
 cond (decide (600<nI (ByteArray.size a)))
 (some [.arr true true (.strs []),.bool false])
 ((go k slices_ContainsFunc_byte_byte [.arr false false (.ints IntKind.u8 (bytesL a)),.fn impl_SplitFields_1 []]).bind fun r0=>
 cond (bit (nth r0 0))
 (some [.arr true true (.strs []),.bool false])
 ((go k strings_Fields [.str a]).bind fun r1=>
 cond (decide (24<nI (List.length (D.strs (nth r1 0)))))
 (some [.arr true true (.strs []),.bool false])
 (some [.arr true (D.nil (nth r1 0)) (.strs (D.strs (nth r1 0))),.bool true]))):=by kernel_rfl
theorem qj5 (k:Nat)(a:Int):go (k+1) impl_SplitFields_1 [.int IntKind.u8 a]=
 cond (decide (a<32))
 (some [.bool true])
 (some [.bool (decide (126<a))]):=by kernel_rfl
theorem qln (k:Nat)(v0:Bool)(v1:LI):go (k+1) slices_ContainsFunc_byte_byte [.arr false v0 (.ints IntKind.u8 v1),.fn impl_SplitFields_1 []]=
 (go k slices_IndexFunc_byte_byte [.arr false v0 (.ints IntKind.u8 v1),.fn impl_SplitFields_1 []]).bind fun r0=>
 some [.bool (decide (0≤D.toInt (nth r0 0)))]:=by kernel_rfl
def qyz (x0 x1:Int)(z2:Bool)(l3:LI):St:=⟨fill 19 [(0,.sl 0 none),(1,.fn impl_SplitFields_1 []),(7,.int .i64 x0),(8,.int .i64 x1)],[],[.arr false z2 (.ints IntKind.u8 l3)]⟩
theorem qlp (k:Nat)(v0:Bool)(v1:LI):go (k+1) slices_IndexFunc_byte_byte [.arr false v0 (.ints IntKind.u8 v1),.fn impl_SplitFields_1 []]=
 lp k slices_IndexFunc_byte_byte [] [] 2 k (qyz (nI (List.length v1)) 0 v0 v1):=by kernel_rfl
theorem qre (k n:Nat)(fu:FU)(x0 x1:Int)(z2:Bool)(l3:LI):lp k slices_IndexFunc_byte_byte [] fu 2 (n+1) (qyz x0 x1 z2 l3)=
 cond (decide (x1<x0))
 (cond (decide (0≤x1)&&decide (x1<nI (List.length l3)))
 ((go k impl_SplitFields_1 [.int IntKind.u8 (List.getD l3 (Int.toNat x1) 0)]).bind fun r0=>
 cond (bit (nth r0 0))
 (some [.int .i64 x1])
 (lp k slices_IndexFunc_byte_byte [] fu 2 n (qyz x0 (IntKind.wrap .i64 (x1+1)) z2 l3)))
 none)
 (some [.int .i64 ((-1:Int))]):=by kernel_rfl
def qy2 (x0:ByteArray)(x1 x2:Int)(z3:Bool)(l4:List ByteArray):St:=⟨fill 19 [(0,.sl 0 none),(1,.str x0),(7,.int .i64 x1),(8,.int .i64 x2)],[],[.arr false z3 (.strs l4)]⟩
theorem qls (k:Nat)(az:Bool)(a:List ByteArray)(b:ByteArray):go (k+1) slices_Index_string_string [.arr false az (.strs a),.str b]=
 lp k slices_Index_string_string [] [] 2 k (qy2 b (nI (List.length a)) 0 az a):=by kernel_rfl
theorem qrh (k n:Nat)(fu:FU)(x0:ByteArray)(x1 x2:Int)(z3:Bool)(l4:List ByteArray):lp k slices_Index_string_string [] fu 2 (n+1) (qy2 x0 x1 x2 z3 l4)=
 cond (decide (x2<x1))
 (cond (decide (0≤x2)&&decide (x2<nI (List.length l4)))
 (cond (decide (x0=List.getD l4 (Int.toNat x2) ByteArray.empty))
 (some [.int .i64 x2])
 (lp k slices_Index_string_string [] fu 2 n (qy2 x0 x1 (IntKind.wrap .i64 (x2+1)) z3 l4)))
 none)
 (some [.int .i64 ((-1:Int))]):=by kernel_rfl
def qye (n0:Nat)(x1 x2 x3 x4 x5 x6:Int)(z7:Bool)(l8:List ByteArray)(x9 x10 x11 x12:Int):St:=⟨fill 76 [(2,.ptr 0 0 0),(4,.sl 1 none),(6,.ptr 2 0 0),(42,.bsl 3 n0),(43,.int .i64 x1),(44,.int .i64 x2)],[],[.box true [.int .i64 x3,.int .i64 x4,.int .i64 x5,.int .i64 x6],.arr true z7 (.strs l8),.box true [.int .i64 x9,.int .i64 x10,.int .i64 x11,.int .i64 x12],.box true [.ptr 2 0 1,.ptr 2 0 2,.ptr 2 0 3]]⟩
theorem qjy (k:Nat)(a:ByteArray):go (k+1) impl_ParseAct [.str a]=
 (go k impl_SplitFields [.str a]).bind fun r0=>
 cond (!bit (nth r0 1))
 (some [.agg [.int .i64 0,.int .i64 0,.int .i64 0,.int .i64 0],.bool false])
 (cond (decide (nI (List.length (D.strs (nth r0 0)))<2))
 (some [.agg [.int .i64 0,.int .i64 0,.int .i64 0,.int .i64 0],.bool false])
 (cond (decide (4<nI (List.length (D.strs (nth r0 0)))))
 (some [.agg [.int .i64 0,.int .i64 0,.int .i64 0,.int .i64 0],.bool false])
 ((go k impl_actNames []).bind fun r1=>
 cond (decide (0≤0)&&decide (0<nI (List.length (D.strs (nth r0 0)))))
 ((go k slices_Index_string_string [.arr false (D.nil (nth r1 0)) (.strs (D.strs (nth r1 0))),.str (List.getD (D.strs (nth r0 0)) (Int.toNat 0) ByteArray.empty)]).bind fun r2=>
 cond (Nat.beq (Program.cellsOf Proofs.Tryz.prog 139) 1&&(decide (0≤IntKind.wrap .i64 (nI (List.length (D.strs (nth r0 0))) - 1))&&decide (IntKind.wrap .i64 (nI (List.length (D.strs (nth r0 0))) - 1)≤nI 3)))
 (lp k impl_ParseAct [] [] 6 k (qye (Int.toNat (IntKind.wrap .i64 (nI (List.length (D.strs (nth r0 0))) - 1))) (nI (Int.toNat (IntKind.wrap .i64 (nI (List.length (D.strs (nth r0 0))) - 1)))) 0 0 0 0 0 (D.nil (nth r0 0)) (D.strs (nth r0 0)) (D.toInt (nth r2 0)) 0 0 0))
 none)
 none))):=by kernel_rfl
end Go.Proofs.YtjfjniebmdafeaaGreatDoor
end
section
namespace Go.Proofs.YtjfjniebmdafeaaGreatDoor
open Go.Ev
abbrev okc (b:UInt8):Bool:=decide (32≤b.toNat)&&decide (b.toNat≤126)
abbrev wdc (b:UInt8):Bool:=decide (33≤b.toNat)&&decide (b.toNat≤126)
def isWd (w:List UInt8):Bool:=!w.isEmpty&&w.all wdc
theorem q0k {b:UInt8}(h:wdc b=true):Lib.isSp b=false:=by
  simp only [wdc,Bool.and_eq_true,decide_eq_true_eq] at h
  unfold Lib.isSp
  have n: ∀ k:UInt8,k.toNat<33→(b == k)=false:=fun k hk=>by
    rw [beq_eq_false_iff_ne]; rintro rfl; omega
  rw [n 9 (by decide),n 10 (by decide),n 11 (by decide),n 12 (by decide),n 13 (by decide),n 32 (by decide)]; rfl
theorem q0j:Lib.isSp 32=true:=by decide
theorem qv3 {b:UInt8}(h:okc b=true)(n:¬ b=32):wdc b=true:=by
  simp only [okc,wdc,Bool.and_eq_true,decide_eq_true_eq] at h ⊢
  have:b.toNat≠32:=fun e=>n (UInt8.toNat_inj.1 e)
  omega
theorem qo1: ∀ (w cur rest:List UInt8),w.all wdc=true→Lib.fieldsGo cur (w++rest)=Lib.fieldsGo (cur++w) rest
  | [],cur,rest,h=>by simp
  | b::w,cur,rest,h=>by
    rw [List.all_cons,Bool.and_eq_true] at h
    rw [List.cons_append,Lib.fieldsGo_more _ _ _ (q0k h.1),qo1 w _ rest h.2,List.append_assoc]; rfl
theorem qod: ∀ (r:List (List UInt8))(x:List UInt8),isWd x=true→r.all isWd=true→Lib.fieldsGo [] (x++Lib.joinTail [32] r)=x::r
  | [],x,hx,hr=>by
    simp only [isWd,Bool.and_eq_true] at hx
    rw [qo1 _ _ _ hx.2]
    cases x with
    | nil=>simp at hx
    | cons a x=>rfl
  | y::r,x,hx,hr=>by
    rw [List.all_cons,Bool.and_eq_true] at hr
    have ih:=qod r y hr.1 hr.2
    simp only [isWd,Bool.and_eq_true] at hx
    have e:Lib.joinTail [32] (y::r)=32::(y++Lib.joinTail [32] r):=by simp [Lib.joinTail]
    rw [e,qo1 _ _ _ hx.2,List.nil_append,Lib.fieldsGo_end x 32 _ q0j (by rintro rfl; simp at hx),ih]
theorem qoa (ws:List (List UInt8))(h:ws.all isWd=true):Lib.fields (Lib.join ws [32])=ws:=by
  cases ws with
  | nil=>rfl
  | cons x r=>
    rw [List.all_cons,Bool.and_eq_true] at h
    rw [Lib.join_cons]
    exact qod r x h.1 h.2
theorem qn9: ∀ (l cur:List UInt8),l.all okc=true→cur.all wdc=true→(Lib.fieldsGo cur l).all isWd=true
  | [],cur,hl,hc=>by
    cases cur with
    | nil=>rfl
    | cons a x=>simp only [Lib.fieldsGo,List.isEmpty_cons,Bool.false_eq_true,if_false,List.all_cons,List.all_nil,Bool.and_true,isWd,Bool.not_false,Bool.true_and]; simpa using hc
  | b::l,cur,hl,hc=>by
    rw [List.all_cons,Bool.and_eq_true] at hl
    by_cases g:b=32
    · subst g
      cases cur with
      | nil=>rw [Lib.fieldsGo_sp _ _ q0j]; exact qn9 l [] hl.2 rfl
      | cons a x=>
        rw [Lib.fieldsGo_end _ _ _ q0j (by simp),List.all_cons,qn9 l [] hl.2 rfl,Bool.and_true]
        simp only [isWd,List.isEmpty_cons,Bool.not_false,Bool.true_and]; exact hc
    · have w:=qv3 hl.1 g
      rw [Lib.fieldsGo_more _ _ _ (q0k w)]
      refine qn9 l _ hl.2 ?_
      rw [List.all_append,hc,List.all_cons,w]; rfl
theorem qoe {s:List UInt8}(h:s.all okc=true):(Lib.fields s).all isWd=true:=qn9 s [] h rfl
theorem qn8: ∀ (l cur:List UInt8),∀ w∈Lib.fieldsGo cur l,w.length≤cur.length+l.length
  | [],cur,w,h=>by
    cases cur with
    | nil=>simp [Lib.fieldsGo] at h
    | cons a x=>simp [Lib.fieldsGo] at h; subst h; simp
  | b::l,cur,w,h=>by
    unfold Lib.fieldsGo at h
    split at h
    · split at h
      · have:=qn8 l [] w h; simp only [List.length_nil,List.length_cons] at*; omega
      · rcases List.mem_cons.1 h with rfl | h
        · omega
        · have:=qn8 l [] w h; simp only [List.length_nil,List.length_cons] at*; omega
    · have:=qn8 l _ w h
      simp only [List.length_append,List.length_cons,List.length_nil] at*; omega
theorem qoc {s w:List UInt8}(h:w∈Lib.fields s):w.length≤s.length:=by
  have:=qn8 s [] w h; simpa using this
def isDg (b:UInt8):Bool:=decide (48≤b.toNat)&&decide (b.toNat≤57)
theorem qit (m:Nat):(UInt8.ofNat (48+m % 10)).toNat=48+m % 10:=by
  rw [UInt8.toNat_ofNat']; omega
theorem qio: ∀ (m:Nat),(decD m).all isDg=true:=by
  intro m
  induction m using Nat.strongRecOn with
  | _ m ih=>
    rw [decD]
    split
    · rfl
    · rw [List.all_append,ih (m / 10) (by omega),List.all_cons,List.all_nil]
      simp only [isDg,qit,Bool.and_true,Bool.true_and,Bool.and_eq_true,decide_eq_true_eq]; omega
theorem qin: ∀ (x:List UInt8)(acc v:Nat)(c:UInt8),Lib.decFrom acc x=some v→isDg c=true→Lib.decFrom acc (x++[c])=some (v*10+(c.toNat - 48))
  | [],acc,v,c,h,hc=>by
    simp only [Lib.decFrom,Option.some.injEq] at h
    subst h
    simp only [isDg,Bool.and_eq_true,decide_eq_true_eq] at hc
    simp [Lib.decFrom,Lib.digitVal,hc]
  | b::x,acc,v,c,h,hc=>by
    simp only [List.cons_append,Lib.decFrom] at h ⊢
    split at h
    · exact qin x _ v c h hc
    · cases h
theorem qim: ∀ (m:Nat),Lib.decFrom 0 (decD m)=some m:=by
  intro m
  induction m using Nat.strongRecOn with
  | _ m ih=>
    rw [decD]
    split
    · rename_i h; subst h; rfl
    · have d:isDg (UInt8.ofNat (48+m % 10))=true:=by simp only [isDg,qit,Bool.and_eq_true,decide_eq_true_eq]; omega
      rw [qin _ _ _ _ (ih (m / 10) (by omega)) d,qit]; congr 1; omega
theorem qip {m:Nat}(h:m≠0):decD m≠[]:=by
  rw [decD,dif_neg h]; simp
theorem qpz {n:Int}(h:0≤n):Lib.itoa n=if n.toNat=0 then [48] else decD n.toNat:=by
  unfold Lib.itoa
  rw [if_neg (by omega)]
  split
  · rename_i e; rw [e]; exact Lib.decDigits_one (by omega)
  · rename_i e; exact (qil _ e).symm
theorem qp0 {n:Int}(h:0≤n):(Lib.itoa n).all isDg=true:=by
  rw [qpz h]; split
  · rfl
  · exact qio _
theorem qp2 {n:Int}(h:0≤n):Lib.itoa n≠[]:=by
  rw [qpz h]; split
  · simp
  · rename_i e; exact qip e
theorem qiu {b:UInt8}(h:isDg b=true):wdc b=true:=by
  simp only [isDg,wdc,Bool.and_eq_true,decide_eq_true_eq] at h ⊢; omega
theorem qp4 {n:Int}(h:0≤n):isWd (Lib.itoa n)=true:=by
  unfold isWd
  rw [Bool.and_eq_true]
  refine ⟨by cases e:Lib.itoa n with | nil=>exact absurd e (qp2 h) | cons _ _=>rfl,?_⟩
  rw [List.all_eq_true]
  intro b hb
  exact qiu (List.all_eq_true.1 (qp0 h) b hb)
theorem qpx {n:Int}(h:0≤n∧n≤1000000):atoiV (Lib.itoa n)=n:=by
  have l:(Lib.itoa n).length≤18:=by
    rw [qpz h.1]; split
    · simp
    · rename_i e
      rw [qil _ e,Lib.decDigits_length]
      have:=qvk 6 n.toNat (by omega)
      omega
  have dn:Lib.decNat (Lib.itoa n)=some n.toNat:=by
    have ne:=qp2 h.1
    unfold Lib.decNat
    rw [if_neg (by cases e:Lib.itoa n with | nil=>exact absurd e ne | cons _ _=>simp),qpz h.1]
    split
    · rename_i e; rw [e]; rfl
    · exact qim _
  have at1:Lib.atoi (Lib.itoa n)=some n:=by
    have dg:=qp0 h.1
    cases e:Lib.itoa n with
    | nil=>exact absurd e (qp2 h.1)
    | cons b r=>
      rw [e] at dg dn
      rw [List.all_cons,Bool.and_eq_true] at dg
      have d:=dg.1
      simp only [isDg,Bool.and_eq_true,decide_eq_true_eq] at d
      have n1:(b == 45)=false:=by rw [beq_eq_false_iff_ne]; rintro rfl; exact absurd d.1 (by decide)
      have n2:(b == 43)=false:=by rw [beq_eq_false_iff_ne]; rintro rfl; exact absurd d.1 (by decide)
      simp only [Lib.atoi,n1,n2,Bool.false_eq_true,if_false,dn,Option.map_some]
      congr 1; omega
  unfold atoiV
  rw [Lib.atoiAll_short _ l,at1]; rfl
end Go.Proofs.YtjfjniebmdafeaaGreatDoor
end
section
namespace Go.Proofs.YtjfjniebmdafeaaGreatDoor
open Go.Ev
set_option maxRecDepth 20000
def q0o (s:List UInt8):Bool:=decide (s.length≤600)&&(s.all okc&&decide ((Lib.fields s).length≤24))
theorem qph (s:List UInt8)(i:Nat):(qpg s).getD i 0=((s.getD i 0).toNat:Int):=by
  unfold qpg
  rw [List.getD_eq_getElem?_getD,List.getElem?_map,List.getD_eq_getElem?_getD]
  cases s[i]? <;>rfl
theorem qv2 (b:UInt8):okc b=(decide ((32:Int)≤(b.toNat:Int))&&decide ((b.toNat:Int)≤126)):=by
  unfold okc
  congr 1<;>rw [decide_eq_decide]<;>omega
theorem qc5 (k:Nat)(hk:2000000≤k)(b:UInt8):go (k+1) impl_SplitFields_1 [.int .u8 (b.toNat:Int)]=some [.bool (!okc b)]:=by
  rw [qj5,qv2]
  by_cases h1:(b.toNat:Int)<32
  · simp (disch:=omega) only [wk,bit,nI]
  · by_cases h2:(126:Int)<(b.toNat:Int)
    · simp (disch:=omega) only [wk,bit,nI]
    · simp (disch:=omega) only [wk,bit,nI]
theorem qtc (k:Nat)(hk:2000000≤k)(fu:List (Nat×Nat))(z:Bool)(s:List UInt8)(hs:s.length≤600): ∀ (N i:Nat),i≤s.length→s.length - i<N→
    ∃ x,lp (k+1) slices_IndexFunc_byte_byte [] fu 2 (N) (qyz (s.length:Int) (i:Int) z (qpg s))=some [.int .i64 x]∧decide (0≤x)= !(s.drop i).all okc
  | 0,i,hi,hN=>by omega
  | N+1,i,hi,hN=>by
    rw [qre]
    have li:=qpl s
    by_cases g:i<s.length
    · have c:=qc5 k (by omega) (s.getD i 0)
      rw [← qph] at c
      rw [qiz g 0,List.all_cons]
      cases h:okc (s.getD i 0)
      · rw [h] at c
        refine ⟨(i:Int),?_,by simp⟩
        simp (disch:=omega) only [wk,bit,nI,li,c]
      · rw [h] at c
        obtain ⟨x,e,hx⟩:=qtc k hk fu z s hs N (i+1) (by omega) (by omega)
        refine ⟨x,?_,by rw [Bool.true_and]; exact hx⟩
        simp (disch:=omega) only [wk,bit,nI,li,c]
        exact e
    · rw [List.drop_of_length_le (by omega)]
      refine ⟨-1,?_,by decide⟩
      simp (disch:=omega) only [wk,bit,nI,li]
theorem qb7 (k:Nat)(hk:2000000≤k)(z:Bool)(s:List UInt8)(hs:s.length≤600):go (k+3) slices_ContainsFunc_byte_byte [.arr false z (.ints .u8 (qpg s)),.fn impl_SplitFields_1 []]=some [.bool (!s.all okc)]:=by
  rw [qln]
  have e:=qlp (k+1) z (qpg s)
  obtain ⟨x,e2,hx⟩:=qtc k hk [] z s hs (k+1) 0 (by omega) (by omega)
  rw [List.drop_zero] at hx
  rw [qpl] at e
  rw [show ((0:Nat):Int)=0 from rfl] at e2
  rw [e2] at e
  simp (disch:=omega) only [wk,bit,nI,e,hx]
theorem qc4 (k:Nat)(hk:2000000≤k)(s:List UInt8)(hs:s.length≤1048576):go (k+4) impl_SplitFields [.str (ba s)]=cond (q0o s) (some [.arr true false (.strs (wordsL s)),.bool true]) (some [.arr true true (.strs []),.bool false]):=by
  rw [qj4]
  have sz:=qbk s
  unfold q0o
  by_cases h:s.length≤600
  · have cF:=qb7 k (by omega) false s h
    have wl:(wordsL s).length=(Lib.fields s).length:=List.length_map ..
    have bb:=qb4 s
    cases ha:s.all okc
    · rw [ha] at cF
      simp (disch:=omega) only [wk,bit,nI,sz,bb,cF]
    · rw [ha] at cF
      have h128:((ba s).data.toList.all fun b=>decide (b.toNat<128))=true:=by
        rw [qbj,List.all_eq_true] at*
        intro b hb
        have:=ha b hb
        simp only [okc,Bool.and_eq_true,decide_eq_true_eq] at this ⊢
        omega
      have cW:=qha (k+2) (ba s) (by rw [sz]; omega) h128
      rw [qbj] at cW
      by_cases h24:(Lib.fields s).length≤24
      · simp (disch:=omega) only [wk,bit,nI,sz,bb,cF,cW,wl]
      · simp (disch:=omega) only [wk,bit,nI,sz,bb,cF,cW,wl]
  · simp (disch:=omega) only [wk,bit,nI,sz]
abbrev baL (l:List (List UInt8)):List ByteArray:=l.map fun w=>⟨w.toArray⟩
end Go.Proofs.YtjfjniebmdafeaaGreatDoor
end
section
namespace Go.Proofs.YtjfjniebmdafeaaGreatDoor
open Go.Ev
set_option maxRecDepth 20000
abbrev A4:=Int×Int×Int×Int
def awd (a b c d:Int):List (List UInt8):=if a=4∨a=6∨a=7 then [nmB a,Lib.itoa b,Lib.itoa c,Lib.itoa d] else [nmB a,Lib.itoa b]
theorem qau (a b c d:Int):actL a b c d=Lib.join (awd a b c d) [32]:=by
  unfold actL awd
  split<;>simp [spacedL,Lib.join_cons,Lib.joinTail]
theorem qvr (a:Int):isWd (nmB a)=true:=by
  unfold nmB
  repeat' split
  all_goals decide
theorem qbf {a b c d:Int}(h:qav a b c d=true):(awd a b c d).all isWd=true:=by
  have bd:=qaw h
  have n:=qvr a
  have i1:=qp4 bd.2.1.1; have i2:=qp4 bd.2.2.1.1; have i3:=qp4 bd.2.2.2.1
  unfold awd
  split<;>simp [n,i1,i2,i3]
theorem qa3 {a b c d:Int}{ws:List (List UInt8)}(hw:ws.all isWd=true)(h:qav a b c d=true)(e:actL a b c d=Lib.join ws [32]):ws=awd a b c d:=by
  rw [qau] at e
  have:=congrArg Lib.fields e
  rw [qoa _ (qbf h),qoa _ hw] at this
  exact this.symm
theorem qa1 {a b c d:Int}(h:qav a b c d=true)(n:¬ (a=4∨a=6∨a=7)):c=0∧d=0:=by
  rcases qa0 (qay h) with rfl | rfl | rfl | rfl | rfl | rfl | rfl
  · simp [qav,sgl,inR] at h; omega
  · simp [qav,sgl,inR] at h; omega
  · simp [qav,sgl,inR] at h; omega
  · exact absurd (Or.inl rfl) n
  · simp [qav,sgl,inR] at h; omega
  · exact absurd (Or.inr (Or.inl rfl)) n
  · exact absurd (Or.inr (Or.inr rfl)) n
theorem qvq {a b:Int}(ha:1≤a∧a≤7)(hb:1≤b∧b≤7)(e:nmB a=nmB b):a=b:=by
  rcases qa0 ha with rfl | rfl | rfl | rfl | rfl | rfl | rfl<;>rcases qa0 hb with rfl | rfl | rfl | rfl | rfl | rfl | rfl<;>first | rfl | exact absurd e (by decide)
def fidx (w:ByteArray):Nat→List ByteArray→Int
  | _,[]=> -1
  | i,x::l=>cond (decide (w=x)) (i:Int) (fidx w (i+1) l)
theorem qtd (k:Nat)(hk:2000000≤k)(fu:List (Nat×Nat))(z:Bool)(w:ByteArray)(l:List ByteArray)(hl:l.length≤1000): ∀ (N i:Nat),i≤l.length→l.length - i<N→
    lp k slices_Index_string_string [] fu 2 (N) (qy2 w (l.length:Int) (i:Int) z l)=some [.int .i64 (fidx w i (l.drop i))]
  | 0,i,hi,hN=>by omega
  | N+1,i,hi,hN=>by
    rw [qrh]
    by_cases g:i<l.length
    · have IH:=qtd k hk fu z w l hl N (i+1) (by omega) (by omega)
      rw [qiz g ByteArray.empty,fidx]
      cases h:decide (w=l.getD i ByteArray.empty)
      · simp (disch:=omega) only [wk,bit,nI,h]
        exact IH
      · simp (disch:=omega) only [wk,bit,nI,h]
    · rw [List.drop_of_length_le (by omega)]
      simp (disch:=omega) only [wk,bit,nI]
      rfl
theorem qer (k:Nat)(hk:2000000≤k)(z:Bool)(l:List ByteArray)(w:ByteArray)(hl:l.length≤1000):go (k+1) slices_Index_string_string [.arr false z (.strs l),.str w]=some [.int .i64 (fidx w 0 l)]:=by
  rw [qls]
  have e:=qtd k hk [] z w l hl (k+0) 0 (by omega) (by omega)
  rw [List.drop_zero,show ((0:Nat):Int)=0 from rfl] at e
  exact e
theorem qn7 {a:Int}(h:1≤a∧a≤7):fidx (ba (nmB a)) 0 NM=a:=by
  rcases qa0 h with rfl | rfl | rfl | rfl | rfl | rfl | rfl<;>decide
theorem qbi {a b:List UInt8} :decide (ba a=ba b)=decide (a=b):=by
  rw [decide_eq_decide]
  constructor
  · intro h; have:=congrArg (fun x:ByteArray=>x.data.toList) h; exact this
  · intro h; rw [h]
abbrev zD:List D:=[.agg [.int .i64 0,.int .i64 0,.int .i64 0,.int .i64 0],.bool false]
abbrev aD (a b c d:Int):List D:=[.agg [.int .i64 a,.int .i64 b,.int .i64 c,.int .i64 d],.bool true]
theorem qqk (k n:Nat)(fu:List (Nat×Nat))(m:Nat)(hm:m≤3)(x3 x4 x5 x6:Int)(z:Bool)(l:List ByteArray)(a b c d:Int):lp k impl_ParseAct [] fu 6 (n+1) (qye m (m:Int) (m:Int) x3 x4 x5 x6 z l a b c d)=
  (go k impl_FormatAct [.agg [.int .i64 a,.int .i64 b,.int .i64 c,.int .i64 d]]).bind fun r=>
    cond (!bit (nth r 1)) (some zD)
    ((go k strings_Join [.arr false z (.strs l),.str { data:= #[(32:UInt8)] }]).bind fun q=>
      cond (!decide (D.toStr (nth r 0)=D.toStr (nth q 0))) (some zD) (some (aD a b c d))):=by
  have:m=0∨m=1∨m=2∨m=3:=by omega
  rcases this with rfl | rfl | rfl | rfl
  · show _=_; kernel_rfl
  · show _=_; kernel_rfl
  · show _=_; kernel_rfl
  · show _=_; kernel_rfl
theorem qql (k n:Nat)(fu:List (Nat×Nat))(m i:Nat)(hi:i<m)(hm:m≤3)(x3 x4 x5 x6:Int)(z:Bool)(l:List ByteArray)(a b c d:Int):lp k impl_ParseAct [] fu 6 (n+1) (qye m (m:Int) (i:Int) x3 x4 x5 x6 z l a b c d)=
  cond (decide (((i+1:Nat):Int)<nI (List.length l)))
    ((go k impl_parseNumber [.str (List.getD l (i+1) ByteArray.empty)]).bind fun r=>lp k impl_ParseAct [] fu 6 n (qye m (m:Int) ((i+1:Nat):Int) x3 x4 x5 x6 z l a (if i=0 then D.toInt (nth r 0) else b) (if i=1 then D.toInt (nth r 0) else c) (if i=2 then D.toInt (nth r 0) else d)))
    none:=by
  have:m=1∧i=0∨m=2∧i=0∨m=2∧i=1∨m=3∧i=0∨m=3∧i=1∨m=3∧i=2:=by omega
  rcases this with ⟨rfl,rfl⟩ | ⟨rfl,rfl⟩ | ⟨rfl,rfl⟩ | ⟨rfl,rfl⟩ | ⟨rfl,rfl⟩ | ⟨rfl,rfl⟩
  · show _=_; kernel_rfl
  · show _=_; kernel_rfl
  · show _=_; kernel_rfl
  · show _=_; kernel_rfl
  · show _=_; kernel_rfl
  · show _=_; kernel_rfl
theorem qo7 (k:Nat)(hk:2000000≤k)(fu:List (Nat×Nat))(z:Bool)(ws:List (List UInt8))(x3 x4 x5 x6 a b c d:Int)(n N:Nat)(hn:n≤3)(hj:(Lib.join ws [32]).length≤100000)(hl:ws.length≤4):
    lp (k+4) impl_ParseAct [] fu 6 (N+1) (qye n (n:Int) (n:Int) x3 x4 x5 x6 z (baL ws) a b c d)=cond (qav a b c d&&decide (actL a b c d=Lib.join ws [32])) (some (aD a b c d)) (some zD):=by
  rw [qqk _ _ _ n hn]
  have f:=qch k (by omega) a b c d
  have jl:joinL (baL ws) (ba [32])=Lib.join ws [32]:=by
    unfold joinL baL
    rw [List.map_map,qbj]
    congr 1
    conv=>rhs; rw [← List.map_id ws]
    rfl
  have j:=qhb (k+3) z (baL ws) (ba [32]) (by rw [jl]; exact hj) (by rw [List.length_map]; omega)
  rw [jl] at j
  have y1' :({ data:= #[(32:UInt8)] } :ByteArray)=ba [32]:=Eq.trans rfl rfl
  cases g:qav a b c d
  · rw [g] at f
    simp (disch:=omega) only [wk,bit,nI,f]
  · rw [g] at f
    have bi:=qbi (a:=actL a b c d) (b:=Lib.join ws [32])
    cases h:decide (actL a b c d=Lib.join ws [32])
    · rw [h] at bi
      simp (disch:=omega) only [wk,bit,nI,f,y1',j,bi]
    · rw [h] at bi
      simp (disch:=omega) only [wk,bit,nI,f,y1',j,bi]
theorem qbg (ws:List (List UInt8))(i:Nat):(baL ws).getD i ByteArray.empty=ba (ws.getD i []):=by
  unfold baL
  rw [List.getD_eq_getElem?_getD,List.getElem?_map,List.getD_eq_getElem?_getD]
  cases ws[i]? <;>rfl
theorem qo8 (k:Nat)(hk:2000000≤k)(fu:List (Nat×Nat))(z:Bool)(ws:List (List UInt8))(x3 x4 x5 x6 a b c d:Int)(n i N:Nat)(hi:i<n)(hn:n≤3)(hl:ws.length=n+1)(hw: ∀ w∈ws,w.length≤1000):
    lp (k+4) impl_ParseAct [] fu 6 (N+1) (qye n (n:Int) (i:Int) x3 x4 x5 x6 z (baL ws) a b c d)=lp (k+4) impl_ParseAct [] fu 6 (N) (qye n (n:Int) ((i+1:Nat):Int) x3 x4 x5 x6 z (baL ws) a (if i=0 then atoiV (ws.getD (i+1) []) else b) (if i=1 then atoiV (ws.getD (i+1) []) else c) (if i=2 then atoiV (ws.getD (i+1) []) else d)):=by
  rw [qql _ _ _ n i hi hn]
  have bl:(baL ws).length=ws.length:=List.length_map ..
  have ba1:=qbg ws (i+1)
  have wl:(ws.getD (i+1) []).length≤1000:=by
    by_cases h:i+1<ws.length
    · exact hw _ (qov h [])
    · rw [qou (by omega)]; simp
  have p:=qea (k+3) (ba (ws.getD (i+1) [])) (by rw [qbk]; exact wl)
  rw [qbj] at p
  simp (disch:=omega) only [wk,bit,nI,bl,ba1,p]
def vAt (f:List UInt8→Int)(r:List (List UInt8))(i:Nat):Int:=(r.map f++[0,0]).getD i 0
theorem qo6 (k:Nat)(hk:2000000≤k)(fu:List (Nat×Nat))(z:Bool)(x:List UInt8)(r:List (List UInt8))(x3 x4 x5 x6 a:Int)(N:Nat)(hr:1≤r.length∧r.length≤3)(hw: ∀ w∈x::r,w.length≤1000)(hj:(Lib.join (x::r) [32]).length≤100000):
    lp (k+4) impl_ParseAct [] fu 6 (N+4) (qye r.length (r.length:Int) ((0:Nat):Int) x3 x4 x5 x6 z (baL (x::r)) a 0 0 0)=cond (qav a (vAt atoiV r 0) (vAt atoiV r 1) (vAt atoiV r 2)&&decide (actL a (vAt atoiV r 0) (vAt atoiV r 1) (vAt atoiV r 2)=Lib.join (x::r) [32])) (some (aD a (vAt atoiV r 0) (vAt atoiV r 1) (vAt atoiV r 2))) (some zD):=by
  match r,hr,hw,hj with
  | [],hr,hw,hj=>simp at hr
  | [w1],hr,hw,hj=>
    rw [qo8 k hk fu z [x,w1] x3 x4 x5 x6 a 0 0 0 [w1].length 0 (N+3) (by simp) (by simp) rfl hw]
    exact qo7 k hk fu z [x,w1] x3 x4 x5 x6 a _ _ _ [w1].length (N+2) (by simp) hj (by simp)
  | [w1,w2],hr,hw,hj=>
    rw [qo8 k hk fu z [x,w1,w2] x3 x4 x5 x6 a 0 0 0 [w1,w2].length 0 (N+3) (by simp) (by simp) rfl hw,qo8 k hk fu z [x,w1,w2] x3 x4 x5 x6 a _ _ _ [w1,w2].length 1 (N+2) (by simp) (by simp) rfl hw]
    exact qo7 k hk fu z [x,w1,w2] x3 x4 x5 x6 a _ _ _ [w1,w2].length (N+1) (by simp) hj (by simp)
  | [w1,w2,w3],hr,hw,hj=>
    rw [qo8 k hk fu z [x,w1,w2,w3] x3 x4 x5 x6 a 0 0 0 [w1,w2,w3].length 0 (N+3) (by simp) (by simp) rfl hw,qo8 k hk fu z [x,w1,w2,w3] x3 x4 x5 x6 a _ _ _ [w1,w2,w3].length 1 (N+2) (by simp) (by simp) rfl hw,qo8 k hk fu z [x,w1,w2,w3] x3 x4 x5 x6 a _ _ _ [w1,w2,w3].length 2 (N+1) (by simp) (by simp) rfl hw]
    exact qo7 k hk fu z [x,w1,w2,w3] x3 x4 x5 x6 a _ _ _ [w1,w2,w3].length N (by simp) hj (by simp)
  | _::_::_::_::_,hr,hw,hj=>simp at hr
end Go.Proofs.YtjfjniebmdafeaaGreatDoor
end
section
namespace Go.Proofs.YtjfjniebmdafeaaGreatDoor
open Go.Ev
set_option maxRecDepth 20000
def qsn (s:List UInt8):Prop:=q0o s=true∧2≤(Lib.fields s).length∧(Lib.fields s).length≤4
def qsm (s:List UInt8)(x:A4):Prop:=aOk x=true∧aL x=Lib.join (Lib.fields s) [32]
open Classical in
noncomputable def prsA (s:List UInt8):Option A4:=if h:qsn s∧ ∃ x,qsm s x then some h.2.choose else none
def prsD:Option A4→List D
  | some x=>aD x.1 x.2.1 x.2.2.1 x.2.2.2
  | none=>zD
theorem qso {s:List UInt8}(h:q0o s=true):s.length≤600∧(Lib.fields s).all isWd=true∧(∀ w∈Lib.fields s,w.length≤600):=by
  simp only [q0o,Bool.and_eq_true,decide_eq_true_eq] at h
  exact ⟨h.1,qoe h.2.1,fun w hw=>Nat.le_trans (qoc hw) h.1⟩
theorem qp6: ∀ (ws:List (List UInt8)),(∀ w∈ws,w.length≤600)→(Lib.join ws [32]).length≤601*ws.length:=by
  intro ws
  cases ws with
  | nil=>intro _; simp [Lib.join_nil]
  | cons x r=>
    intro h
    have: ∀ (l:List (List UInt8)),(∀ w∈l,w.length≤600)→(Lib.joinTail [32] l).length≤601*l.length:=by
      intro l
      induction l with
      | nil=>intro _; simp [Lib.joinTail]
      | cons a l ih=>
        intro h
        have e:Lib.joinTail [32] (a::l)=32::(a++Lib.joinTail [32] l):=by simp [Lib.joinTail]
        have:=ih (fun w hw=>h w (List.mem_cons_of_mem _ hw))
        have:=h a List.mem_cons_self
        rw [e]; simp only [List.length_cons,List.length_append]; omega
    have h1:=this r (fun w hw=>h w (List.mem_cons_of_mem _ hw))
    have h2:=h x List.mem_cons_self
    rw [Lib.join_cons,List.length_append,List.length_cons]; omega
theorem q2s {a b c d:Int}{f:List UInt8→Int}(hf: ∀ n:Int,0≤n∧n≤1000000→f (Lib.itoa n)=n)(h:qav a b c d=true){x:List UInt8}{r:List (List UInt8)}(e:x::r=awd a b c d):x=nmB a∧vAt f r 0=b∧vAt f r 1=c∧vAt f r 2=d:=by
  have bd:=qaw h
  have e1:=hf b bd.2.1; have e2:=hf c bd.2.2.1; have e3:=hf d bd.2.2.2
  unfold awd at e
  split at e
  · cases e
    simp [vAt,e1,e2,e3]
  · rename_i n
    have s:=qa1 h n
    cases e
    simp [vAt,e1,s.1,s.2]
theorem qh4:Nat.beq (Tryz.prog.cellsOf 139) 1=true:=by kernel_rfl
theorem qcy (k:Nat)(hk:2000000≤k)(s:List UInt8)(hs:s.length≤1048576):go (k+5) impl_ParseAct [.str (ba s)]=some (prsD (prsA s)):=by
  rw [qjy,qh4]
  have eS:=qc4 k (by omega) s hs
  have wl:(wordsL s).length=(Lib.fields s).length:=List.length_map ..
  cases g:q0o s
  · rw [g] at eS
    have:prsA s=none:=dif_neg (fun h=>by have:=h.1.1; rw [g] at this; cases this)
    rw [this]
    simp (disch:=omega) only [wk,bit,nI,eS]
    rfl
  rw [g] at eS
  obtain ⟨h600,hwd,hwl⟩:=qso g
  by_cases h2:(Lib.fields s).length<2
  · have:prsA s=none:=dif_neg (fun h=>by have:=h.1.2.1; omega)
    rw [this]
    simp (disch:=omega) only [wk,bit,nI,eS,wl]
    rfl
  by_cases h4:4<(Lib.fields s).length
  · have:prsA s=none:=dif_neg (fun h=>by have:=h.1.2.2; omega)
    rw [this]
    simp (disch:=omega) only [wk,bit,nI,eS,wl]
    rfl
  obtain ⟨x,r,hx⟩: ∃ x r,Lib.fields s=x::r:=by
    cases h:Lib.fields s with
    | nil=>rw [h] at h2; simp at h2
    | cons x r=>exact ⟨x,r,rfl⟩
  have hw:wordsL s=baL (x::r):=by unfold wordsL; rw [hx]
  have lo:qsn s:=⟨g,by omega,by omega⟩
  have jl:=qp6 _ hwl
  rw [hx] at wl h2 h4 hwd hwl jl
  simp only [List.length_cons] at wl h2 h4 jl
  have e1:(wordsL s).getD 0 ByteArray.empty=ba x:=by rw [hw]; rfl
  have cN:=qdg (k+4 - 1)
  rw [show k+4 - 1+1=k+4 by omega] at cN
  have cI:=qer (k+3) (by omega) false NM (ba x) (by rw [qag]; omega)
  have eE:=qo6 k hk [] false x r 0 0 0 0 (fidx (ba x) 0 NM) (k+4 - 4) (by omega) (fun w hw=>by have:=hwl w hw; omega) (by omega)
  rw [show k+4 - 4+4=k+4 by omega,← hw,show ((0:Nat):Int)=0 from rfl] at eE
  have t0:Int.toNat 0=0:=rfl
  have fin:cond (qav (fidx (ba x) 0 NM) (vAt atoiV r 0) (vAt atoiV r 1) (vAt atoiV r 2)&&decide (actL (fidx (ba x) 0 NM) (vAt atoiV r 0) (vAt atoiV r 1) (vAt atoiV r 2)=Lib.join (x::r) [32])) (some (aD (fidx (ba x) 0 NM) (vAt atoiV r 0) (vAt atoiV r 1) (vAt atoiV r 2))) (some zD)=some (prsD (prsA s)):=by
    by_cases ex: ∃ y,qsm s y
    · have e:prsA s=some ex.choose:=dif_pos ⟨lo,ex⟩
      have hy:=ex.choose_spec
      generalize ex.choose=y at e hy
      obtain ⟨a,b,c,d⟩:=y
      obtain ⟨y1,y2⟩:=hy
      rw [hx] at y2
      have hws:=qa3 hwd y1 y2
      obtain ⟨v0,v1,v2,v3⟩:=q2s (f:=atoiV) (fun n h=>qpx h) y1 hws
      rw [e,v0,v1,v2,v3,qn7 (qay y1),show qav a b c d=true from y1,← v0,decide_eq_true (show actL a b c d=Lib.join (x::r) [32] from y2)]
      rfl
    · have e:prsA s=none:=dif_neg (fun h=>ex h.2)
      rw [e]
      cases c:(qav (fidx (ba x) 0 NM) (vAt atoiV r 0) (vAt atoiV r 1) (vAt atoiV r 2)&&decide (actL (fidx (ba x) 0 NM) (vAt atoiV r 0) (vAt atoiV r 1) (vAt atoiV r 2)=Lib.join (x::r) [32]))
      · rfl
      · simp only [Bool.and_eq_true,decide_eq_true_eq] at c
        exact absurd ⟨(_,_,_,_),c.1,by rw [hx]; exact c.2⟩ ex
  rw [fin] at eE
  simp (disch:=omega) only [wk,bit,nI,eS,wl,t0,e1,cN,cI]
  rw [show ((r.length+1:Nat):Int) - 1=(r.length:Int) by omega,Int.toNat_natCast]
  exact eE
end Go.Proofs.YtjfjniebmdafeaaGreatDoor
end
section
namespace Go.Proofs.YtjfjniebmdafeaaGreatDoor
open Go.Ev
def qzd (x0:Int)(z1:Bool)(l2:L4)(z3:Bool)(l4:L3)(z5:Bool)(l6:LI)(z7:Bool)(l8:LI)(z9:Bool)(l10:LI)(x11 x12 x13 x14 x15 x16 x17 x18 x19 x20 x21 x22 x23 x24 x25 x26 x27:Int)(z28:Bool)(l29:L3)(z30:Bool)(l31:LI)(z32:Bool)(l33:LI)(z34:Bool)(l35:LI)(x36 x37 x38 x39 x40 x41 x42 x43 x44 x45 x46 x47 x48 x49 x50 x51 x52:Int)(z53:Bool)(l54:LI):St:=⟨fill 46 [(1,.sl 0 none),(4,.ptr 5 0 0),(6,.ptr 10 0 0),(7,.sl 11 none),(8,.int .i64 x0)],[],[.arr false z1 (.r4 l2),.arr true z3 (.r3 l4),.arr true z5 (.ints .i64 l6),.arr true z7 (.ints .i64 l8),.arr true z9 (.ints .i64 l10),wB true 1 x11 x12 x13 x14 x15 x16 x17 x18 x19 x20 x21 x22 x23 x24 x25 x26 x27,.arr true z28 (.r3 l29),.arr true z30 (.ints .i64 l31),.arr true z32 (.ints .i64 l33),.arr true z34 (.ints .i64 l35),wB true 6 x36 x37 x38 x39 x40 x41 x42 x43 x44 x45 x46 x47 x48 x49 x50 x51 x52,.arr true z53 (.ints .i64 l54)]⟩
theorem qmi (k:Nat)(a0:Int)(a1z:Bool)(a1:L3)(a2z:Bool)(a2:LI)(a3z:Bool)(a3:LI)(a4z:Bool)(a4:LI)(a5 a6 a7 a8 a9 a10 a11 a12 a13 a14 a15 a16 a17 a18 a19 a20:Int)(bz:Bool)(b:L4):go (k+1) spec_RunActs [wV false a0 a1z a1 a2z a2 a3z a3 a4z a4 a5 a6 a7 a8 a9 a10 a11 a12 a13 a14 a15 a16 a17 a18 a19 a20,.arr false bz (.r4 b)]=
 (go k spec_l36Copy [wV false a0 a1z a1 a2z a2 a3z a3 a4z a4 a5 a6 a7 a8 a9 a10 a11 a12 a13 a14 a15 a16 a17 a18 a19 a20]).bind fun r0=>
 (go k spec_WorldOk [wV false a0 a1z a1 a2z a2 a3z a3 a4z a4 a5 a6 a7 a8 a9 a10 a11 a12 a13 a14 a15 a16 a17 a18 a19 a20]).bind fun r1=>
 cond (!bit (nth r1 0))
 (some [wC true (nth r0 0),.arr true false (.ints .i64 [])])
 (cond (decide (30<nI (List.length b)))
 (some [wC true (nth r0 0),.arr true false (.ints .i64 [])])
 (lp k spec_RunActs [] [] 6 k (wA (qzd 0 bz b true [] true [] true [] true [] 0 0 0 0 0 0 0 0 0 0 0 0 0 0 0 0 0) (nth r0 0) false []))):=by kernel_rfl
theorem qrs (k n:Nat)(fu:FU)(x0:Int)(z1:Bool)(l2:L4)(z3:Bool)(l4:L3)(z5:Bool)(l6:LI)(z7:Bool)(l8:LI)(z9:Bool)(l10:LI)(x11 x12 x13 x14 x15 x16 x17 x18 x19 x20 x21 x22 x23 x24 x25 x26 x27:Int)(z28:Bool)(l29:L3)(z30:Bool)(l31:LI)(z32:Bool)(l33:LI)(z34:Bool)(l35:LI)(x36 x37 x38 x39 x40 x41 x42 x43 x44 x45 x46 x47 x48 x49 x50 x51 x52:Int)(z53:Bool)(l54:LI):lp k spec_RunActs [] fu 6 (n+1) (qzd x0 z1 l2 z3 l4 z5 l6 z7 l8 z9 l10 x11 x12 x13 x14 x15 x16 x17 x18 x19 x20 x21 x22 x23 x24 x25 x26 x27 z28 l29 z30 l31 z32 l33 z34 l35 x36 x37 x38 x39 x40 x41 x42 x43 x44 x45 x46 x47 x48 x49 x50 x51 x52 z53 l54)=
 cond (decide (x0<nI (List.length l2)))
 (cond (decide (0≤x0)&&decide (x0<nI (List.length l2)))
 ((go k spec_DoAct [wV false x36 z28 l29 z30 l31 z32 l33 z34 l35 x37 x38 x39 x40 x41 x42 x43 x44 x45 x46 x47 x48 x49 x50 x51 x52,.agg [.int .i64 (Prod.fst (List.getD l2 (Int.toNat x0) zz4)),.int .i64 (Prod.fst (Prod.snd (List.getD l2 (Int.toNat x0) zz4))),.int .i64 (Prod.fst (Prod.snd (Prod.snd (List.getD l2 (Int.toNat x0) zz4)))),.int .i64 (Prod.snd (Prod.snd (Prod.snd (List.getD l2 (Int.toNat x0) zz4))))]]).bind fun r0=>
 cond (decide (List.length (l54++[D.toInt (nth r0 1)])≤bigLen))
 (lp k spec_RunActs [] fu 6 n (wA (qzd (IntKind.wrap .i64 (x0+1)) z1 l2 z3 l4 z5 l6 z7 l8 z9 l10 x11 x12 x13 x14 x15 x16 x17 x18 x19 x20 x21 x22 x23 x24 x25 x26 x27) (nth r0 0) (z53&&decide (List.length (l54++[D.toInt (nth r0 1)])=0)) (l54++[D.toInt (nth r0 1)])))
 none)
 none)
 (some [wV true x36 z28 l29 z30 l31 z32 l33 z34 l35 x37 x38 x39 x40 x41 x42 x43 x44 x45 x46 x47 x48 x49 x50 x51 x52,.arr true z53 (.ints .i64 l54)]):=by kernel_rfl
def qyf (x0 x1:Int)(z2:Bool)(l3:L3)(z4:Bool)(l5:LI)(z6:Bool)(l7:LI)(z8:Bool)(l9:LI)(x10 x11 x12 x13 x14 x15 x16 x17 x18 x19 x20 x21 x22 x23 x24 x25 x26:Int)(z27:Bool)(l28:L3)(z29:Bool)(l30:LI)(z31:Bool)(l32:LI)(z33:Bool)(l34:LI)(x35 x36 x37 x38 x39 x40 x41 x42 x43 x44 x45 x46 x47 x48 x49 x50 x51:Int)(z52:Bool)(l53:LI)(z54:Bool)(l55:L4):St:=⟨fill 44 [(4,.ptr 4 0 0),(6,.ptr 9 0 0),(7,.sl 10 none),(24,.sl 11 none),(25,.int .i64 x0),(26,.int .i64 x1)],[],[.arr true z2 (.r3 l3),.arr true z4 (.ints .i64 l5),.arr true z6 (.ints .i64 l7),.arr true z8 (.ints .i64 l9),wB true 0 x10 x11 x12 x13 x14 x15 x16 x17 x18 x19 x20 x21 x22 x23 x24 x25 x26,.arr true z27 (.r3 l28),.arr true z29 (.ints .i64 l30),.arr true z31 (.ints .i64 l32),.arr true z33 (.ints .i64 l34),wB true 5 x35 x36 x37 x38 x39 x40 x41 x42 x43 x44 x45 x46 x47 x48 x49 x50 x51,.arr true z52 (.ints .i64 l53),.arr false z54 (.r4 l55)]⟩
theorem qj0 (k:Nat)(a0:Int)(a1z:Bool)(a1:L3)(a2z:Bool)(a2:LI)(a3z:Bool)(a3:LI)(a4z:Bool)(a4:LI)(a5 a6 a7 a8 a9 a10 a11 a12 a13 a14 a15 a16 a17 a18 a19 a20:Int)(bz:Bool)(b:L4):go (k+1) impl_RunActs [wV false a0 a1z a1 a2z a2 a3z a3 a4z a4 a5 a6 a7 a8 a9 a10 a11 a12 a13 a14 a15 a16 a17 a18 a19 a20,.arr false bz (.r4 b)]=
 (go k impl_copyWorld [wV false a0 a1z a1 a2z a2 a3z a3 a4z a4 a5 a6 a7 a8 a9 a10 a11 a12 a13 a14 a15 a16 a17 a18 a19 a20]).bind fun r0=>
 (go k impl_WorldOk [wV false a0 a1z a1 a2z a2 a3z a3 a4z a4 a5 a6 a7 a8 a9 a10 a11 a12 a13 a14 a15 a16 a17 a18 a19 a20]).bind fun r1=>
 cond (!bit (nth r1 0))
 (some [wC true (nth r0 0),.arr true true (.ints .i64 [])])
 (cond (decide (30<nI (List.length b)))
 (some [wC true (nth r0 0),.arr true true (.ints .i64 [])])
 (lp k impl_RunActs [] [] 6 k (wA (qyf (nI (List.length b)) 0 true [] true [] true [] true [] 0 0 0 0 0 0 0 0 0 0 0 0 0 0 0 0 0) (nth r0 0) false [] bz b))):=by kernel_rfl
theorem qqu (k n:Nat)(fu:FU)(x0 x1:Int)(z2:Bool)(l3:L3)(z4:Bool)(l5:LI)(z6:Bool)(l7:LI)(z8:Bool)(l9:LI)(x10 x11 x12 x13 x14 x15 x16 x17 x18 x19 x20 x21 x22 x23 x24 x25 x26:Int)(z27:Bool)(l28:L3)(z29:Bool)(l30:LI)(z31:Bool)(l32:LI)(z33:Bool)(l34:LI)(x35 x36 x37 x38 x39 x40 x41 x42 x43 x44 x45 x46 x47 x48 x49 x50 x51:Int)(z52:Bool)(l53:LI)(z54:Bool)(l55:L4):lp k impl_RunActs [] fu 6 (n+1) (qyf x0 x1 z2 l3 z4 l5 z6 l7 z8 l9 x10 x11 x12 x13 x14 x15 x16 x17 x18 x19 x20 x21 x22 x23 x24 x25 x26 z27 l28 z29 l30 z31 l32 z33 l34 x35 x36 x37 x38 x39 x40 x41 x42 x43 x44 x45 x46 x47 x48 x49 x50 x51 z52 l53 z54 l55)=
 cond (decide (x1<x0))
 (cond (decide (0≤x1)&&decide (x1<nI (List.length l55)))
 ((go k impl_DoAct [wV false x35 z27 l28 z29 l30 z31 l32 z33 l34 x36 x37 x38 x39 x40 x41 x42 x43 x44 x45 x46 x47 x48 x49 x50 x51,.agg [.int .i64 (Prod.fst (List.getD l55 (Int.toNat x1) zz4)),.int .i64 (Prod.fst (Prod.snd (List.getD l55 (Int.toNat x1) zz4))),.int .i64 (Prod.fst (Prod.snd (Prod.snd (List.getD l55 (Int.toNat x1) zz4)))),.int .i64 (Prod.snd (Prod.snd (Prod.snd (List.getD l55 (Int.toNat x1) zz4))))]]).bind fun r0=>
 cond (decide (List.length (l53++[D.toInt (nth r0 1)])≤bigLen))
 (lp k impl_RunActs [] fu 6 n (wA (qyf x0 (IntKind.wrap .i64 (x1+1)) z2 l3 z4 l5 z6 l7 z8 l9 x10 x11 x12 x13 x14 x15 x16 x17 x18 x19 x20 x21 x22 x23 x24 x25 x26) (nth r0 0) (z52&&decide (List.length (l53++[D.toInt (nth r0 1)])=0)) (l53++[D.toInt (nth r0 1)]) z54 l55))
 none)
 none)
 (some [wV true x35 z27 l28 z29 l30 z31 l32 z33 l34 x36 x37 x38 x39 x40 x41 x42 x43 x44 x45 x46 x47 x48 x49 x50 x51,.arr true z52 (.ints .i64 l53)]):=by kernel_rfl

end Go.Proofs.YtjfjniebmdafeaaGreatDoor
end
section
namespace Go.Proofs.YtjfjniebmdafeaaGreatDoor
open Go.Ev
set_option maxRecDepth 20000
abbrev Acts:=List (Int×Int×Int×Int)
def runN (acts:Acts):Nat→Wd→Wd×List Int
  | 0,w=>(w,[])
  | n+1,w=>((doW (runN acts n w).1 (acts.getD n zz4).1 (acts.getD n zz4).2.1 (acts.getD n zz4).2.2.1 (acts.getD n zz4).2.2.2).1,(runN acts n w).2++[(doW (runN acts n w).1 (acts.getD n zz4).1 (acts.getD n zz4).2.1 (acts.getD n zz4).2.2.1 (acts.getD n zz4).2.2.2).2])
theorem qxy (acts:Acts): ∀ (n:Nat)(w:Wd),(runN acts n w).2.length=n
  | 0,w=>rfl
  | n+1,w=>by simp [runN,qxy acts n w]
theorem qi1 {w:Wd}(S:Sml w)(p m h:Int):Sml (drp w p m h):=by
  unfold drp
  cases qi0 w p m h
  · exact S
  · exact ⟨S.h1,by show ((List.set _ _ _).length:Int)≤_; rw [List.length_set]; exact S.h2,by show ((List.set _ _ _).length:Int)≤_; rw [List.length_set]; exact S.h3,S.h4⟩
theorem qba {w:Wd}(h:Sml w)(n:Int):Sml (adv w n):=by
  unfold adv
  cases g:qa8 w n
  · exact h
  · simp only [qa8,Bool.and_eq_true] at g
    exact ((qa6 n.toNat w 0 (wdF g.1).adv).F).sml
theorem qix {w:Wd}(S:Sml w)(a b c d:Int):Sml (doW w a b c d).1:=by
  unfold doW
  cases wdOk w&&qav a b c d
  · exact S
  · simp only [qie]
    unfold actW
    by_cases h1:a=1
    · rw [if_pos h1]; exact qba S b
    rw [if_neg h1]
    by_cases h2:a=2
    · rw [if_pos h2]; exact ⟨S.h1,S.h2,S.h3,S.h4⟩
    rw [if_neg h2]
    by_cases h3:a=3
    · rw [if_pos h3]; exact ⟨S.h1,S.h2,S.h3,S.h4⟩
    rw [if_neg h3]
    by_cases h4:a=4
    · rw [if_pos h4]; exact ⟨S.h1,S.h2,S.h3,S.h4⟩
    rw [if_neg h4]
    by_cases h5:a=5
    · rw [if_pos h5]; exact ⟨S.h1,S.h2,S.h3,S.h4⟩
    rw [if_neg h5]
    by_cases h6:a=6
    · rw [if_pos h6]; exact ⟨S.h1,S.h2,S.h3,S.h4⟩
    rw [if_neg h6]
    exact qi1 S b c d
theorem qx0 (acts:Acts){w:Wd}(S:Sml w): ∀ n,Sml (runN acts n w).1
  | 0=>S
  | n+1=>qix (qx0 acts S n) _ _ _ _
set_option maxHeartbeats 2000000 in
theorem qti (k:Nat)(hk:2000000≤k)(fu:List (Nat×Nat))(acts:Acts)(hl:acts.length≤30)(zz:Bool)(w0:Wd)(S:Sml w0)(z2:Bool)(l3:List Cell)(z4:Bool)(l5:List Int)(z6:Bool)(l7:List Int)(z8:Bool)(l9:List Int)(x10 x11 x12 x13 x14 x15 x16 x17 x18 x19 x20 x21 x22 x23 x24 x25 x26:Int): ∀ (N i:Nat)(w:Wd)(L:List Int),w=(runN acts i w0).1→L=(runN acts i w0).2→i≤acts.length→acts.length - i<N→
    lp (k+14) impl_RunActs [] fu 6 (N) (qyf (acts.length:Int) (i:Int) z2 l3 z4 l5 z6 l7 z8 l9 x10 x11 x12 x13 x14 x15 x16 x17 x18 x19 x20 x21 x22 x23 x24 x25 x26 false w.s.1 false w.s.2.1 false w.s.2.2 false w.b w.r w.p.bi w.p.bs w.p.bo w.p.rain w.p.loss w.p.dec w.p.high w.p.low w.p.every w.k w.ld.mi w.ld.mo w.ld.ti w.ld.ou w.f w.g false L zz acts)=some [wdO (runN acts acts.length w0).1,.arr true false (.ints .i64 (runN acts acts.length w0).2)]
  | 0,i,w,L,ew,eL,hi,hN=>by omega
  | N+1,i,w,L,ew,eL,hi,hN=>by
    rw [qqu]
    by_cases g:i<acts.length
    · have T:=qx0 acts S i
      rw [← ew] at T
      have e1:(runN acts (i+1) w0).1=(doW w (acts.getD i zz4).1 (acts.getD i zz4).2.1 (acts.getD i zz4).2.2.1 (acts.getD i zz4).2.2.2).1:=by rw [runN,← ew]
      have e2:(runN acts (i+1) w0).2=L++[(doW w (acts.getD i zz4).1 (acts.getD i zz4).2.1 (acts.getD i zz4).2.2.1 (acts.getD i zz4).2.2.2).2]:=by rw [runN,← ew,← eL]
      have IH:=qti k hk fu acts hl zz w0 S z2 l3 z4 l5 z6 l7 z8 l9 x10 x11 x12 x13 x14 x15 x16 x17 x18 x19 x20 x21 x22 x23 x24 x25 x26 N (i+1) _ _ e1.symm e2.symm (by omega) (by omega)
      have eD:=qce k (by omega) w (acts.getD i zz4).1 (acts.getD i zz4).2.1 (acts.getD i zz4).2.2.1 (acts.getD i zz4).2.2.2 T
      have ll:=qxy acts (i+1) w0
      rw [e2] at ll
      generalize doW w (acts.getD i zz4).1 (acts.getD i zz4).2.1 (acts.getD i zz4).2.2.1 (acts.getD i zz4).2.2.2=X at*
      simp (disch:=omega) only [wk,bit,nI,eD,ll,IH]
    · have:i=acts.length:=by omega
      subst this
      subst ew; subst eL
      simp (disch:=omega) only [wk,bit,nI]
set_option maxHeartbeats 2000000 in
theorem qub (k:Nat)(hk:2000000≤k)(fu:List (Nat×Nat))(acts:Acts)(hl:acts.length≤30)(zz:Bool)(w0:Wd)(S:Sml w0)(z3:Bool)(l4:List Cell)(z5:Bool)(l6:List Int)(z7:Bool)(l8:List Int)(z9:Bool)(l10:List Int)(x11 x12 x13 x14 x15 x16 x17 x18 x19 x20 x21 x22 x23 x24 x25 x26 x27:Int): ∀ (N i:Nat)(w:Wd)(L:List Int),w=(runN acts i w0).1→L=(runN acts i w0).2→i≤acts.length→acts.length - i<N→
    lp (k+10) spec_RunActs [] fu 6 (N) (qzd (i:Int) zz acts z3 l4 z5 l6 z7 l8 z9 l10 x11 x12 x13 x14 x15 x16 x17 x18 x19 x20 x21 x22 x23 x24 x25 x26 x27 false w.s.1 false w.s.2.1 false w.s.2.2 false w.b w.r w.p.bi w.p.bs w.p.bo w.p.rain w.p.loss w.p.dec w.p.high w.p.low w.p.every w.k w.ld.mi w.ld.mo w.ld.ti w.ld.ou w.f w.g false L)=some [wdO (runN acts acts.length w0).1,.arr true false (.ints .i64 (runN acts acts.length w0).2)]
  | 0,i,w,L,ew,eL,hi,hN=>by omega
  | N+1,i,w,L,ew,eL,hi,hN=>by
    rw [qrs]
    by_cases g:i<acts.length
    · have T:=qx0 acts S i
      rw [← ew] at T
      have e1:(runN acts (i+1) w0).1=(doW w (acts.getD i zz4).1 (acts.getD i zz4).2.1 (acts.getD i zz4).2.2.1 (acts.getD i zz4).2.2.2).1:=by rw [runN,← ew]
      have e2:(runN acts (i+1) w0).2=L++[(doW w (acts.getD i zz4).1 (acts.getD i zz4).2.1 (acts.getD i zz4).2.2.1 (acts.getD i zz4).2.2.2).2]:=by rw [runN,← ew,← eL]
      have IH:=qub k hk fu acts hl zz w0 S z3 l4 z5 l6 z7 l8 z9 l10 x11 x12 x13 x14 x15 x16 x17 x18 x19 x20 x21 x22 x23 x24 x25 x26 x27 N (i+1) _ _ e1.symm e2.symm (by omega) (by omega)
      have eD:=qe7 k (by omega) w (acts.getD i zz4).1 (acts.getD i zz4).2.1 (acts.getD i zz4).2.2.1 (acts.getD i zz4).2.2.2 T
      have ll:=qxy acts (i+1) w0
      rw [e2] at ll
      generalize doW w (acts.getD i zz4).1 (acts.getD i zz4).2.1 (acts.getD i zz4).2.2.1 (acts.getD i zz4).2.2.2=X at*
      simp (disch:=omega) only [wk,bit,nI,eD,ll,IH]
    · have:i=acts.length:=by omega
      subst this
      subst ew; subst eL
      simp (disch:=omega) only [wk,bit,nI]
def qx1 (w:Wd)(acts:Acts):Bool:=wdOk w&&decide ((acts.length:Int)≤30)
def runW (w:Wd)(acts:Acts):Wd×List Int:=cond (qx1 w acts) (runN acts acts.length w) (w,[])
theorem qc0 (k:Nat)(hk:2000000≤k)(w:Wd)(z:Bool)(acts:Acts)(S:Sml w)(hl:(acts.length:Int)≤1048576):go (k+15) impl_RunActs [wdR w,.arr false z (.r4 acts)]=some [wdO (runW w acts).1,.arr true (!(qx1 w acts)) (.ints .i64 (runW w acts).2)]:=by
  rw [qj0]
  have eC:=qdp (k+10) (by omega) w S
  have eO:=qde (k+5) (by omega) w S
  unfold runW qx1
  cases g:wdOk w
  · rw [g] at eO
    simp (disch:=omega) only [wk,bit,nI,eC,eO]
  rw [g] at eO
  by_cases g2:(acts.length:Int)≤30
  case neg=>simp (disch:=omega) only [wk,bit,nI,eC,eO]
  have e:=qti k hk [] acts (by omega) z w S true [] true [] true [] true [] 0 0 0 0 0 0 0 0 0 0 0 0 0 0 0 0 0 (k+14) 0 w [] rfl rfl (by omega) (by omega)
  rw [show ((0:Nat):Int)=0 from rfl] at e
  simp (disch:=omega) only [wk,bit,nI,eC,eO]
  exact e
theorem qfr (k:Nat)(hk:2000000≤k)(w:Wd)(z:Bool)(acts:Acts)(S:Sml w)(hl:(acts.length:Int)≤1048576):go (k+11) spec_RunActs [wdR w,.arr false z (.r4 acts)]=some [wdO (runW w acts).1,.arr true false (.ints .i64 (runW w acts).2)]:=by
  rw [qmi]
  have eC:=qg2 (k+7) (by omega) w S
  have eO:=qf2 (k+2) (by omega) w S
  unfold runW qx1
  cases g:wdOk w
  · rw [g] at eO
    simp (disch:=omega) only [wk,bit,nI,eC,eO]
  rw [g] at eO
  by_cases g2:(acts.length:Int)≤30
  case neg=>simp (disch:=omega) only [wk,bit,nI,eC,eO]
  have e:=qub k hk [] acts (by omega) z w S true [] true [] true [] true [] 0 0 0 0 0 0 0 0 0 0 0 0 0 0 0 0 0 (k+10) 0 w [] rfl rfl (by omega) (by omega)
  rw [show ((0:Nat):Int)=0 from rfl] at e
  simp (disch:=omega) only [wk,bit,nI,eC,eO]
  exact e
theorem qx2 (w:Wd)(acts:Acts):(runW w acts).2.length≤30:=by
  unfold runW
  cases g:qx1 w acts
  · simp
  · simp only [qx1,Bool.and_eq_true,decide_eq_true_eq] at g
    rw [qie,qxy]; omega
theorem qx4 {w:Wd}(S:Sml w)(acts:Acts):Sml (runW w acts).1:=by
  unfold runW
  cases qx1 w acts
  · exact S
  · exact qx0 acts S _
end Go.Proofs.YtjfjniebmdafeaaGreatDoor
end
section
namespace Go.Proofs.YtjfjniebmdafeaaGreatDoor
open Go.Ev
set_option maxRecDepth 20000
abbrev fmtI (l:List Int):List ByteArray:=l.map fun n=>ba (Lib.itoa n)
def qbu (s:List UInt8):Bool:=q0o s&&decide ((wordsL s).length=0)
noncomputable def scrP:List (List UInt8)→Acts→Option Acts
  | [],acc=>some acc
  | s::ls,acc=>cond (qbu s) (scrP ls acc) ((prsA s).bind fun x=>scrP ls (acc++[x]))
def qxv (w:Wd)(acts:Acts):List ByteArray:=fmtI (runW w acts).2++fwT (runW w acts).1
def rsA (w:Wd)(acts:Acts):Option (List ByteArray):=cond (decide (acts.length≤30)) (some (qxv w acts)) none
noncomputable def rsL (w:Wd)(ls:List (List UInt8))(acc:Acts):Option (List ByteArray):=(scrP ls acc).bind (rsA w)
def rsD (z:Bool):Option (List ByteArray)→List D
  | some l=>[.arr true false (.strs l),.bool true]
  | none=>[.arr true z (.strs []),.bool false]
theorem qxs {w:Wd}{s:List UInt8}{ls:List (List UInt8)}{acc:Acts}(h:qbu s=true):rsL w (s::ls) acc=rsL w ls acc:=by
  unfold rsL; rw [scrP,h]; rfl
theorem qxt {w:Wd}{s:List UInt8}{ls:List (List UInt8)}{acc:Acts}(h:qbu s=false)(hp:prsA s=none):rsL w (s::ls) acc=none:=by
  unfold rsL; rw [scrP,h,hp]; rfl
theorem qxu {w:Wd}{s:List UInt8}{ls:List (List UInt8)}{acc:Acts}{x:A4}(h:qbu s=false)(hp:prsA s=some x):rsL w (s::ls) acc=rsL w ls (acc++[x]):=by
  unfold rsL; rw [scrP,h,hp]; rfl
theorem qoo {l:List Int}{i:Nat}(h:i<l.length):fmtI (l.take (i+1))=fmtI (l.take i)++[ba (Lib.itoa (l.getD i 0))]:=by
  unfold fmtI
  rw [List.take_succ_eq_append_getElem h,List.map_append]
  simp [h]
theorem qor (w:Wd):(fwT w).length≤20:=by
  unfold fwT; cases wdOk w<;>simp [fwL]
theorem qiw {w:Wd}(S:Sml w)(a b c d:Int):inI64 (doW w a b c d).2=true:=by
  unfold doW
  cases g:wdOk w&&qav a b c d
  · exact qpc (show _≤(-1:Int)∧(-1:Int)≤_ by omega)
  · simp only [Bool.and_eq_true] at g
    rw [qie]
    have F:=qa9 g.1 b
    have s1:=qps _ F.mmem
    have ml:=F.ml; have ll:=F.len; have rr:=F.rr
    have h1:=S.h1
    unfold actW
    by_cases h1:a=1
    · rw [if_pos h1]; exact qpc (show _≤isum _∧isum _≤_ by omega)
    rw [if_neg h1]
    by_cases h2:a=2
    · rw [if_pos h2]; exact qpc (show _≤(1:Int)∧(1:Int)≤_ by omega)
    rw [if_neg h2]
    by_cases h3:a=3
    · rw [if_pos h3]; exact qpc (show _≤(1:Int)∧(1:Int)≤_ by omega)
    rw [if_neg h3]
    by_cases h4:a=4
    · rw [if_pos h4]; exact qpc (show _≤(1:Int)∧(1:Int)≤_ by omega)
    rw [if_neg h4]
    by_cases h5:a=5
    · rw [if_pos h5]; exact qpc (show _≤(1:Int)∧(1:Int)≤_ by omega)
    rw [if_neg h5]
    by_cases h6:a=6
    · rw [if_pos h6]; exact qpc (show _≤(w.s.1.length:Int)∧(w.s.1.length:Int)≤_ by omega)
    rw [if_neg h6]
    show inI64 (cond (qi0 w b c d) 1 0)=true
    cases qi0 w b c d
    · exact qpc (show _≤(0:Int)∧(0:Int)≤_ by omega)
    · exact qpc (show _≤(1:Int)∧(1:Int)≤_ by omega)
theorem qxz (acts:Acts){w:Wd}(S:Sml w): ∀ n,∀ x∈(runN acts n w).2,inI64 x=true
  | 0=>fun x hx=>by cases hx
  | n+1=>fun x hx=>by
    rw [runN,List.mem_append] at hx
    rcases hx with h | h
    · exact qxz acts S n x h
    · rw [List.mem_singleton] at h
      rw [h]; exact qiw (qx0 acts S n) _ _ _ _
theorem qx3 {w:Wd}(S:Sml w)(acts:Acts)(i:Nat)(h:i<(runW w acts).2.length):inI64 ((runW w acts).2.getD i 0)=true:=by
  have: ∀ x∈(runW w acts).2,inI64 x=true:=by
    unfold runW
    cases qx1 w acts
    · exact fun x hx=>by cases hx
    · exact qxz acts S _
  refine this _ ?_
  rw [List.getD_eq_getElem?_getD,List.getElem?_eq_getElem h]
  exact List.getElem_mem h
set_option maxHeartbeats 2000000 in
theorem qta (k:Nat)(hk:2000000≤k)(fu:List (Nat×Nat))(x:Wd)(S:Sml x)(zz:Bool)(ns:List Int)(hn:ns.length≤30)(hi64: ∀ i,i<ns.length→inI64 (ns.getD i 0)=true): ∀ (N i:Nat)(L:List ByteArray),L=fmtI (ns.take i)→i≤ns.length→ns.length - i<N→
    lp (k+15) impl_RunScript [] fu 19 (N) (qyg (ns.length:Int) (i:Int) false x.s.1 false x.s.2.1 false x.s.2.2 false x.b x.r x.p.bi x.p.bs x.p.bo x.p.rain x.p.loss x.p.dec x.p.high x.p.low x.p.every x.k x.ld.mi x.ld.mo x.ld.ti x.ld.ou x.f x.g false L zz ns)=some [.arr true false (.strs (fmtI ns++fwT x)),.bool true]
  | 0,i,L,eL,hi,hN=>by omega
  | N+1,i,L,eL,hi,hN=>by
    rw [qqv]
    have bl:bigLen=1099511627776:=rfl
    have Ll:L.length=i:=by rw [eL]; simp; omega
    by_cases g:i<ns.length
    · have eF:=qci (k+13) (by omega) _ (hi64 i g)
      have IH:=qta k hk fu x S zz ns hn hi64 N (i+1) (L++[ba (Lib.itoa (ns.getD i 0))]) (by rw [eL,qoo g]) (by omega) (by omega)
      simp (disch:=omega) only [wk,bit,nI,eF,bl,Ll,List.length_append,List.length_cons,List.length_nil]
      exact IH
    · obtain rfl:i=ns.length:=by omega
      rw [List.take_length] at eL
      have eF:=qck (k+5) (by omega) x S
      have fl:=qor x
      subst eL
      simp (disch:=omega) only [wk,bit,nI,eF,bl,Ll,List.length_append]
theorem qo9 (k:Nat)(hk:2000000≤k)(fu:List (Nat×Nat))(w:Wd)(S:Sml w)(ls:List ByteArray)(N:Nat)(acc:Acts)(ha:(acc.length:Int)≤1048576):
    lp (k+15) impl_RunScript [] fu 5 (N+1) (qyh (ls.length:Int) (ls.length:Int) false w.s.1 false w.s.2.1 false w.s.2.2 false w.b w.r w.p.bi w.p.bs w.p.bo w.p.rain w.p.loss w.p.dec w.p.high w.p.low w.p.every w.k w.ld.mi w.ld.mo w.ld.ti w.ld.ou w.f w.g false acc false ls)=some (rsD true (rsA w acc)):=by
  rw [qqw]
  unfold rsA
  by_cases h:(acc.length:Int)≤30
  case neg=>
    rw [dF (by omega:¬ acc.length≤30)]
    simp (disch:=omega) only [wk,bit,nI]
    rfl
  rw [dT (by omega:acc.length≤30)]
  have eR:=qc0 k (by omega) w false acc S ha
  have ll:=qx2 w acc
  have SX:=qx4 S acc
  have nn:=qx3 S acc
  unfold qxv
  generalize runW w acc=X at*
  have e:=qta k hk fu X.1 SX (!(qx1 w acc)) X.2 ll nn (k+15) 0 [] (by simp) (by omega) (by omega)
  rw [show ((0:Nat):Int)=0 from rfl] at e
  simp (disch:=omega) only [wk,bit,nI,eR]
  exact e
set_option maxHeartbeats 2000000 in
theorem qtb (k:Nat)(hk:2000000≤k)(fu:List (Nat×Nat))(w:Wd)(S:Sml w)(ls:List (List UInt8))(hl:ls.length≤1000000)(hs: ∀ i,(ls.getD i []).length≤1048576): ∀ (N i:Nat)(acc:Acts),i≤ls.length→ls.length - i<N→acc.length≤i→
    lp (k+15) impl_RunScript [] fu 5 (N) (qyh (ls.length:Int) (i:Int) false w.s.1 false w.s.2.1 false w.s.2.2 false w.b w.r w.p.bi w.p.bs w.p.bo w.p.rain w.p.loss w.p.dec w.p.high w.p.low w.p.every w.k w.ld.mi w.ld.mo w.ld.ti w.ld.ou w.f w.g false acc false (baL ls))=some (rsD true (rsL w (ls.drop i) acc))
  | 0,i,acc,hi,hN,ha=>by omega
  | N+1,i,acc,hi,hN,ha=>by
    have bl:bigLen=1099511627776:=rfl
    have ll:(baL ls).length=ls.length:=List.length_map ..
    by_cases g:i<ls.length
    · rw [qqw,qiz g []]
      have ea:=qbg ls i
      have hz:=hs i
      generalize ls.getD i []=s at*
      have eS:=qc4 (k+11) (by omega) s hz
      have eP:=qcy (k+10) (by omega) s hz
      cases b:qbu s
      case true=>
        rw [qxs b]
        simp only [qbu,Bool.and_eq_true,decide_eq_true_eq] at b
        rw [b.1] at eS
        have b2:=b.2
        have IH:=qtb k hk fu w S ls hl hs N (i+1) acc (by omega) (by omega) (by omega)
        simp (disch:=omega) only [wk,bit,nI,eS,ll,ea,b2]
        exact IH
      cases hp:prsA s with
      | none=>
        rw [qxt b hp]
        rw [hp] at eP
        have eP:go (k+15) impl_ParseAct [.str (ba s)]=some zD:=eP
        cases o:q0o s
        · rw [o] at eS
          simp (disch:=omega) only [wk,bit,nI,eS,eP,ll,ea]
          rfl
        · rw [o] at eS
          have b2:¬ (wordsL s).length=0:=by rw [qbu,o,Bool.true_and] at b; exact of_decide_eq_false b
          simp (disch:=omega) only [wk,bit,nI,eS,eP,ll,ea]
          rfl
      | some x=>
        rw [qxu b hp]
        rw [hp] at eP
        obtain ⟨a1,a2,a3,a4⟩:=x
        have eP:go (k+15) impl_ParseAct [.str (ba s)]=some (aD a1 a2 a3 a4):=eP
        have IH:=qtb k hk fu w S ls hl hs N (i+1) (acc++[(a1,a2,a3,a4)]) (by omega) (by omega) (by simp; omega)
        cases o:q0o s
        · rw [o] at eS
          simp (disch:=omega) only [wk,bit,nI,eS,eP,ll,ea,bl,List.length_append,List.length_cons,List.length_nil]
          exact IH
        · rw [o] at eS
          have b2:¬ (wordsL s).length=0:=by rw [qbu,o,Bool.true_and] at b; exact of_decide_eq_false b
          simp (disch:=omega) only [wk,bit,nI,eS,eP,ll,ea,bl,List.length_append,List.length_cons,List.length_nil]
          exact IH
    · obtain rfl:i=ls.length:=by omega
      rw [List.drop_length]
      have E:=qo9 k hk fu w S (baL ls) N acc (by omega)
      rw [ll] at E
      exact E
theorem qsq: ∀ (l cur:List UInt8),(linesGo cur l).length≤l.length+1
  | [],cur=>by simp [linesGo]
  | b::l,cur=>by
    rw [linesGo]
    have h1:=qsq l []; have h2:=qsq l (cur++[b])
    cases decide (b=10)
    · rw [qic,List.length_cons]; omega
    · rw [qie,List.length_cons,List.length_cons]; omega
theorem qsr: ∀ (l cur:List UInt8),∀ s∈linesGo cur l,s.length≤cur.length+l.length
  | [],cur=>fun s h=>by
    rw [linesGo,List.mem_singleton] at h
    subst h; simp
  | b::l,cur=>fun s h=>by
    rw [linesGo] at h
    cases g:decide (b=10)
    · rw [g,qic] at h
      have:=qsr l _ s h
      simp only [List.length_append,List.length_cons,List.length_nil] at this ⊢; omega
    · rw [g,qie,List.mem_cons] at h
      rcases h with rfl | h
      · simp only [List.length_cons]; omega
      · have:=qsr l _ s h
        simp only [List.length_nil,List.length_cons] at this ⊢; omega
noncomputable def rsP (w:Wd)(t:List UInt8):Option (List ByteArray):=cond (decide (t.length≤20000)&&wdOk w) (rsL w (linesGo [] t) []) none
theorem qc1 (k:Nat)(hk:2000000≤k)(w:Wd)(S:Sml w)(t:List UInt8):go (k+16) impl_RunScript [wdR w,.str (ba t)]=some (rsD true (rsP w t)):=by
  rw [qj1]
  have sz:=qbk t
  unfold rsP
  by_cases h:(t.length:Int)≤20000
  case neg=>
    rw [dF (by omega:¬ t.length≤20000)]
    simp (disch:=omega) only [wk,bit,nI,sz]
    rfl
  rw [dT (by omega:t.length≤20000),Bool.true_and]
  have eO:=qde (k+6) (by omega) w S
  cases g:wdOk w
  · rw [g] at eO
    simp (disch:=omega) only [wk,bit,nI,sz,eO]
    rfl
  rw [g] at eO
  have eL:=qhc (k+14) (ba t) (by rw [sz]; omega)
  rw [qbj] at eL
  have h1:=qsq t []
  have e:=qtb k hk [] w S (linesGo [] t) (by omega) (fun i=>by
    by_cases hi:i<(linesGo [] t).length
    · have:=qsr t [] ((linesGo [] t).getD i []) (by rw [List.getD_eq_getElem?_getD,List.getElem?_eq_getElem hi]; exact List.getElem_mem hi)
      simp only [List.length_nil] at this; omega
    · rw [List.getD_eq_getElem?_getD,List.getElem?_eq_none (by omega)]; simp) (k+15) 0 [] (by omega) (by omega) (by simp)
  rw [List.drop_zero,show ((0:Nat):Int)=0 from rfl] at e
  have wl:(linesL t).length=(linesGo [] t).length:=List.length_map ..
  have ww:linesL t=baL (linesGo [] t):=rfl
  simp (disch:=omega) only [wk,bit,nI,sz,eO,eL,wl]
  rw [ww]
  exact e
end Go.Proofs.YtjfjniebmdafeaaGreatDoor
end
section
namespace Go.Proofs.YtjfjniebmdafeaaGreatDoor
open Go.Ev
theorem qns (k:Nat)(v0:Bool)(v1:LI)(v2 v3:Int):go (k+1) spec_l18Plan [.ptr true [.arr false v0 (.ints IntKind.u8 v1),.int .i64 v2,.int .i64 v3]]=
 (go k spec_l13Border [.ptr true [.arr false v0 (.ints IntKind.u8 v1),.int .i64 v2,.int .i64 v3]]).bind fun r0=>
 (go k spec_l01Below [.ptr true [.arr false v0 (.ints IntKind.u8 v1),.int .i64 (D.toInt (D.cell 1 (nth r0 1))),.int .i64 (D.toInt (D.cell 2 (nth r0 1)))],.int .i64 2]).bind fun r1=>
 (go k spec_l01Below [.ptr true [.arr false v0 (.ints IntKind.u8 v1),.int .i64 (D.toInt (D.cell 1 (nth r1 1))),.int .i64 (D.toInt (D.cell 2 (nth r1 1)))],.int .i64 900]).bind fun r2=>
 (go k spec_l01Below [.ptr true [.arr false v0 (.ints IntKind.u8 v1),.int .i64 (D.toInt (D.cell 1 (nth r2 1))),.int .i64 (D.toInt (D.cell 2 (nth r2 1)))],.int .i64 2]).bind fun r3=>
 (go k spec_l01Below [.ptr true [.arr false v0 (.ints IntKind.u8 v1),.int .i64 (D.toInt (D.cell 1 (nth r3 1))),.int .i64 (D.toInt (D.cell 2 (nth r3 1)))],.int .i64 400]).bind fun r4=>
 (go k spec_l01Below [.ptr true [.arr false v0 (.ints IntKind.u8 v1),.int .i64 (D.toInt (D.cell 1 (nth r4 1))),.int .i64 (D.toInt (D.cell 2 (nth r4 1)))],.int .i64 2]).bind fun r5=>
 (go k spec_l01Below [.ptr true [.arr false v0 (.ints IntKind.u8 v1),.int .i64 (D.toInt (D.cell 1 (nth r5 1))),.int .i64 (D.toInt (D.cell 2 (nth r5 1)))],.int .i64 200]).bind fun r6=>
 (go k spec_l01Below [.ptr true [.arr false v0 (.ints IntKind.u8 v1),.int .i64 (D.toInt (D.cell 1 (nth r6 1))),.int .i64 (D.toInt (D.cell 2 (nth r6 1)))],.int .i64 4000]).bind fun r7=>
 (go k spec_l01Below [.ptr true [.arr false v0 (.ints IntKind.u8 v1),.int .i64 (D.toInt (D.cell 1 (nth r7 1))),.int .i64 (D.toInt (D.cell 2 (nth r7 1)))],.int .i64 300]).bind fun r8=>
 (go k spec_l01Below [.ptr true [.arr false v0 (.ints IntKind.u8 v1),.int .i64 (D.toInt (D.cell 1 (nth r8 1))),.int .i64 (D.toInt (D.cell 2 (nth r8 1)))],.int .i64 3]).bind fun r9=>
 some [.agg [.int .i64 (D.toInt (D.cell 0 (nth r0 0))),.int .i64 (D.toInt (D.cell 1 (nth r0 0))),.int .i64 (D.toInt (D.cell 2 (nth r0 0))),.int .i64 (IntKind.wrap .i64 (D.toInt (nth r1 0)*D.toInt (nth r2 0))),.int .i64 (IntKind.wrap .i64 (D.toInt (nth r3 0)*D.toInt (nth r4 0))),.int .i64 (IntKind.wrap .i64 (D.toInt (nth r5 0)*D.toInt (nth r6 0))),.int .i64 (IntKind.wrap .i64 (200+D.toInt (nth r7 0))),.int .i64 (D.toInt (nth r8 0)),.int .i64 (D.toInt (nth r9 0))],.ptr true [.arr false v0 (.ints IntKind.u8 v1),.int .i64 (D.toInt (D.cell 1 (nth r9 1))),.int .i64 (D.toInt (D.cell 2 (nth r9 1)))]]:=by kernel_rfl
theorem qnj (k:Nat)(v0:Bool)(v1:LI)(v2 v3:Int):go (k+1) spec_l13Border [.ptr true [.arr false v0 (.ints IntKind.u8 v1),.int .i64 v2,.int .i64 v3]]=
 (go k spec_l01Below [.ptr true [.arr false v0 (.ints IntKind.u8 v1),.int .i64 v2,.int .i64 v3],.int .i64 2]).bind fun r0=>
 (go k spec_l01Below [.ptr true [.arr false v0 (.ints IntKind.u8 v1),.int .i64 (D.toInt (D.cell 1 (nth r0 1))),.int .i64 (D.toInt (D.cell 2 (nth r0 1)))],.int .i64 3000]).bind fun r1=>
 (go k spec_l01Below [.ptr true [.arr false v0 (.ints IntKind.u8 v1),.int .i64 (D.toInt (D.cell 1 (nth r1 1))),.int .i64 (D.toInt (D.cell 2 (nth r1 1)))],.int .i64 1001]).bind fun r2=>
 (go k spec_l01Below [.ptr true [.arr false v0 (.ints IntKind.u8 v1),.int .i64 (D.toInt (D.cell 1 (nth r2 1))),.int .i64 (D.toInt (D.cell 2 (nth r2 1)))],.int .i64 2]).bind fun r3=>
 (go k spec_l01Below [.ptr true [.arr false v0 (.ints IntKind.u8 v1),.int .i64 (D.toInt (D.cell 1 (nth r3 1))),.int .i64 (D.toInt (D.cell 2 (nth r3 1)))],.int .i64 251]).bind fun r4=>
 some [.agg [.int .i64 (IntKind.wrap .i64 (D.toInt (nth r0 0)*D.toInt (nth r1 0))),.int .i64 (D.toInt (nth r2 0)),.int .i64 (IntKind.wrap .i64 (D.toInt (nth r3 0)*D.toInt (nth r4 0)))],.ptr true [.arr false v0 (.ints IntKind.u8 v1),.int .i64 (D.toInt (D.cell 1 (nth r4 1))),.int .i64 (D.toInt (D.cell 2 (nth r4 1)))]]:=by kernel_rfl
theorem qnv (k:Nat)(v0:Bool)(v1:LI)(v2 v3:Int):go (k+1) spec_l37Act [.ptr true [.arr false v0 (.ints IntKind.u8 v1),.int .i64 v2,.int .i64 v3]]=
 (go k spec_l01Below [.ptr true [.arr false v0 (.ints IntKind.u8 v1),.int .i64 v2,.int .i64 v3],.int .i64 8]).bind fun r0=>
 cond (decide (D.toInt (nth r0 0)=0))
 ((go k spec_l01Below [.ptr true [.arr false v0 (.ints IntKind.u8 v1),.int .i64 (D.toInt (D.cell 1 (nth r0 1))),.int .i64 (D.toInt (D.cell 2 (nth r0 1)))],.int .i64 900]).bind fun r1=>
 some [.agg [.int .i64 2,.int .i64 (D.toInt (nth r1 0)),.int .i64 0,.int .i64 0],.ptr true [.arr false v0 (.ints IntKind.u8 v1),.int .i64 (D.toInt (D.cell 1 (nth r1 1))),.int .i64 (D.toInt (D.cell 2 (nth r1 1)))]])
 (cond (decide (D.toInt (nth r0 0)=1))
 ((go k spec_l01Below [.ptr true [.arr false v0 (.ints IntKind.u8 v1),.int .i64 (D.toInt (D.cell 1 (nth r0 1))),.int .i64 (D.toInt (D.cell 2 (nth r0 1)))],.int .i64 900]).bind fun r2=>
 some [.agg [.int .i64 3,.int .i64 (D.toInt (nth r2 0)),.int .i64 0,.int .i64 0],.ptr true [.arr false v0 (.ints IntKind.u8 v1),.int .i64 (D.toInt (D.cell 1 (nth r2 1))),.int .i64 (D.toInt (D.cell 2 (nth r2 1)))]])
 (cond (decide (D.toInt (nth r0 0)=2))
 ((go k spec_l01Below [.ptr true [.arr false v0 (.ints IntKind.u8 v1),.int .i64 (D.toInt (D.cell 1 (nth r0 1))),.int .i64 (D.toInt (D.cell 2 (nth r0 1)))],.int .i64 3000]).bind fun r3=>
 (go k spec_l01Below [.ptr true [.arr false v0 (.ints IntKind.u8 v1),.int .i64 (D.toInt (D.cell 1 (nth r3 1))),.int .i64 (D.toInt (D.cell 2 (nth r3 1)))],.int .i64 1001]).bind fun r4=>
 (go k spec_l01Below [.ptr true [.arr false v0 (.ints IntKind.u8 v1),.int .i64 (D.toInt (D.cell 1 (nth r4 1))),.int .i64 (D.toInt (D.cell 2 (nth r4 1)))],.int .i64 251]).bind fun r5=>
 some [.agg [.int .i64 4,.int .i64 (D.toInt (nth r3 0)),.int .i64 (D.toInt (nth r4 0)),.int .i64 (D.toInt (nth r5 0))],.ptr true [.arr false v0 (.ints IntKind.u8 v1),.int .i64 (D.toInt (D.cell 1 (nth r5 1))),.int .i64 (D.toInt (D.cell 2 (nth r5 1)))]])
 (cond (decide (D.toInt (nth r0 0)=3))
 ((go k spec_l01Below [.ptr true [.arr false v0 (.ints IntKind.u8 v1),.int .i64 (D.toInt (D.cell 1 (nth r0 1))),.int .i64 (D.toInt (D.cell 2 (nth r0 1)))],.int .i64 300]).bind fun r6=>
 some [.agg [.int .i64 5,.int .i64 (D.toInt (nth r6 0)),.int .i64 0,.int .i64 0],.ptr true [.arr false v0 (.ints IntKind.u8 v1),.int .i64 (D.toInt (D.cell 1 (nth r6 1))),.int .i64 (D.toInt (D.cell 2 (nth r6 1)))]])
 (cond (decide (D.toInt (nth r0 0)=4))
 ((go k spec_l01Below [.ptr true [.arr false v0 (.ints IntKind.u8 v1),.int .i64 (D.toInt (D.cell 1 (nth r0 1))),.int .i64 (D.toInt (D.cell 2 (nth r0 1)))],.int .i64 3000]).bind fun r7=>
 (go k spec_l01Below [.ptr true [.arr false v0 (.ints IntKind.u8 v1),.int .i64 (D.toInt (D.cell 1 (nth r7 1))),.int .i64 (D.toInt (D.cell 2 (nth r7 1)))],.int .i64 400]).bind fun r8=>
 (go k spec_l01Below [.ptr true [.arr false v0 (.ints IntKind.u8 v1),.int .i64 (D.toInt (D.cell 1 (nth r8 1))),.int .i64 (D.toInt (D.cell 2 (nth r8 1)))],.int .i64 3]).bind fun r9=>
 some [.agg [.int .i64 6,.int .i64 (IntKind.wrap .i64 (100+D.toInt (nth r7 0))),.int .i64 (D.toInt (nth r8 0)),.int .i64 (D.toInt (nth r9 0))],.ptr true [.arr false v0 (.ints IntKind.u8 v1),.int .i64 (D.toInt (D.cell 1 (nth r9 1))),.int .i64 (D.toInt (D.cell 2 (nth r9 1)))]])
 (cond (decide (D.toInt (nth r0 0)=5))
 ((go k spec_l01Below [.ptr true [.arr false v0 (.ints IntKind.u8 v1),.int .i64 (D.toInt (D.cell 1 (nth r0 1))),.int .i64 (D.toInt (D.cell 2 (nth r0 1)))],.int .i64 40]).bind fun r10=>
 (go k spec_l01Below [.ptr true [.arr false v0 (.ints IntKind.u8 v1),.int .i64 (D.toInt (D.cell 1 (nth r10 1))),.int .i64 (D.toInt (D.cell 2 (nth r10 1)))],.int .i64 5000]).bind fun r11=>
 (go k spec_l01Below [.ptr true [.arr false v0 (.ints IntKind.u8 v1),.int .i64 (D.toInt (D.cell 1 (nth r11 1))),.int .i64 (D.toInt (D.cell 2 (nth r11 1)))],.int .i64 1001]).bind fun r12=>
 some [.agg [.int .i64 7,.int .i64 (D.toInt (nth r10 0)),.int .i64 (IntKind.wrap .i64 (1+D.toInt (nth r11 0))),.int .i64 (D.toInt (nth r12 0))],.ptr true [.arr false v0 (.ints IntKind.u8 v1),.int .i64 (D.toInt (D.cell 1 (nth r12 1))),.int .i64 (D.toInt (D.cell 2 (nth r12 1)))]])
 ((go k spec_l01Below [.ptr true [.arr false v0 (.ints IntKind.u8 v1),.int .i64 (D.toInt (D.cell 1 (nth r0 1))),.int .i64 (D.toInt (D.cell 2 (nth r0 1)))],.int .i64 3]).bind fun r13=>
 some [.agg [.int .i64 1,.int .i64 (IntKind.wrap .i64 (1+D.toInt (nth r13 0))),.int .i64 0,.int .i64 0],.ptr true [.arr false v0 (.ints IntKind.u8 v1),.int .i64 (D.toInt (D.cell 1 (nth r13 1))),.int .i64 (D.toInt (D.cell 2 (nth r13 1)))]])))))):=by kernel_rfl
def qzx (x0:Int)(z1:Bool)(l2:LI)(x3 x4:Int)(z5:Bool)(l6:L4):St:=⟨fill 18 [(0,.ptr 1 0 0),(3,.sl 2 none),(4,.int .i64 x0)],[.ptr 1 0 0,.sl 0 none],[.arr false z1 (.ints IntKind.u8 l2),.box true [.sl 0 none,.int .i64 x3,.int .i64 x4],.arr true z5 (.r4 l6)]⟩
theorem qnw (k:Nat)(v0:Bool)(v1:LI)(v2 v3:Int):go (k+1) spec_l37Acts [.ptr true [.arr false v0 (.ints IntKind.u8 v1),.int .i64 v2,.int .i64 v3]]=
 lp k spec_l37Acts [.ptr true [.arr false v0 (.ints IntKind.u8 v1),.int .i64 v2,.int .i64 v3]] [] 3 k (qzx 0 v0 v1 v2 v3 false []):=by kernel_rfl
theorem qsc (k n:Nat)(fu:FU)(v0:Bool)(v1:LI)(v2 v3 x0:Int)(z1:Bool)(l2:LI)(x3 x4:Int)(z5:Bool)(l6:L4):lp k spec_l37Acts [.ptr true [.arr false v0 (.ints IntKind.u8 v1),.int .i64 v2,.int .i64 v3]] fu 3 (n+1) (qzx x0 z1 l2 x3 x4 z5 l6)=
 (go k spec_l01Below [.ptr true [.arr false z1 (.ints IntKind.u8 l2),.int .i64 x3,.int .i64 x4],.int .i64 7]).bind fun r0=>
 cond (decide (x0<D.toInt (nth r0 0)))
 ((go k spec_l37Act [.ptr true [.arr false z1 (.ints IntKind.u8 l2),.int .i64 (D.toInt (D.cell 1 (nth r0 1))),.int .i64 (D.toInt (D.cell 2 (nth r0 1)))]]).bind fun r1=>
 cond (decide (List.length (l6++[(D.toInt (D.cell 0 (nth r1 0)),D.toInt (D.cell 1 (nth r1 0)),D.toInt (D.cell 2 (nth r1 0)),D.toInt (D.cell 3 (nth r1 0)))])≤bigLen))
 (lp k spec_l37Acts [.ptr true [.arr false v0 (.ints IntKind.u8 v1),.int .i64 v2,.int .i64 v3]] fu 3 n (qzx (IntKind.wrap .i64 (x0+1)) z1 l2 (D.toInt (D.cell 1 (nth r1 1))) (D.toInt (D.cell 2 (nth r1 1))) (z5&&decide (List.length (l6++[(D.toInt (D.cell 0 (nth r1 0)),D.toInt (D.cell 1 (nth r1 0)),D.toInt (D.cell 2 (nth r1 0)),D.toInt (D.cell 3 (nth r1 0)))])=0)) (l6++[(D.toInt (D.cell 0 (nth r1 0)),D.toInt (D.cell 1 (nth r1 0)),D.toInt (D.cell 2 (nth r1 0)),D.toInt (D.cell 3 (nth r1 0)))])))
 none)
 (some [.arr true z5 (.r4 l6),.ptr true [.arr false z1 (.ints IntKind.u8 l2),.int .i64 (D.toInt (D.cell 1 (nth r0 1))),.int .i64 (D.toInt (D.cell 2 (nth r0 1)))]]):=by kernel_rfl
def qy7 (x0 x1:Int)(z2:Bool)(l3:LI)(z4:Bool)(l5:L3)(z6:Bool)(l7:LI)(z8:Bool)(l9:LI)(z10:Bool)(l11:LI)(x12 x13 x14 x15 x16 x17 x18 x19 x20 x21 x22 x23 x24 x25 x26 x27 x28:Int)(z29:Bool)(l30:L4):St:=⟨fill 32 [(0,.sl 0 none),(3,.int .i64 x0),(4,.int .i64 x1)],[.sl 0 none,.un,.ptr 5 0 0,.sl 6 none,.un,.un,.un,.sl 0 none,.un,.un,.un,.un,.un,.un,.un,.un,.un,.un,.un,.un],[.arr false z2 (.ints IntKind.u8 l3),.arr true z4 (.r3 l5),.arr true z6 (.ints .i64 l7),.arr true z8 (.ints .i64 l9),.arr true z10 (.ints .i64 l11),wB true 1 x12 x13 x14 x15 x16 x17 x18 x19 x20 x21 x22 x23 x24 x25 x26 x27 x28,.arr true z29 (.r4 l30)]⟩
theorem ql1 (k:Nat)(az:Bool)(a:LI):go (k+1) spec_DrawActs [.arr false az (.ints IntKind.u8 a)]=
 lp k spec_DrawActs [] [] 2800003 k (qy7 (IntKind.wrap .i64 (98231+nI (List.length a))) 0 az a true [] true [] true [] true [] 0 0 0 0 0 0 0 0 0 0 0 0 0 0 0 0 0 true []):=by kernel_rfl
theorem qrm (k n:Nat)(fu:FU)(x0 x1:Int)(z2:Bool)(l3:LI)(z4:Bool)(l5:L3)(z6:Bool)(l7:LI)(z8:Bool)(l9:LI)(z10:Bool)(l11:LI)(x12 x13 x14 x15 x16 x17 x18 x19 x20 x21 x22 x23 x24 x25 x26 x27 x28:Int)(z29:Bool)(l30:L4):lp k spec_DrawActs [] fu 2800003 (n+1) (qy7 x0 x1 z2 l3 z4 l5 z6 l7 z8 l9 z10 l11 x12 x13 x14 x15 x16 x17 x18 x19 x20 x21 x22 x23 x24 x25 x26 x27 x28 z29 l30)=
 cond (decide (x1<nI (List.length l3)))
 (cond (decide (x1<4000))
 (cond (decide (0≤x1)&&decide (x1<nI (List.length l3)))
 (lp k spec_DrawActs [] fu 2800003 n (qy7 (bitN BinOp.and .i64 (IntKind.wrap .i64 (IntKind.wrap .i64 (IntKind.wrap .i64 (x0*131)+IntKind.wrap .i64 (List.getD l3 (Int.toNat x1) 0))+7)) 1073741823) (IntKind.wrap .i64 (x1+1)) z2 l3 z4 l5 z6 l7 z8 l9 z10 l11 x12 x13 x14 x15 x16 x17 x18 x19 x20 x21 x22 x23 x24 x25 x26 x27 x28 z29 l30))
 none)
 ((go k spec_l07State [.ptr true [.arr false z2 (.ints IntKind.u8 l3),.int .i64 0,.int .i64 x0]]).bind fun r0=>
 (go k spec_l18Plan [.ptr true [.arr false z2 (.ints IntKind.u8 l3),.int .i64 (D.toInt (D.cell 1 (nth r0 1))),.int .i64 (D.toInt (D.cell 2 (nth r0 1)))]]).bind fun r1=>
 (go k spec_WorldNew [sC false (nth r0 0),.agg [.int .i64 (D.toInt (D.cell 0 (nth r1 0))),.int .i64 (D.toInt (D.cell 1 (nth r1 0))),.int .i64 (D.toInt (D.cell 2 (nth r1 0))),.int .i64 (D.toInt (D.cell 3 (nth r1 0))),.int .i64 (D.toInt (D.cell 4 (nth r1 0))),.int .i64 (D.toInt (D.cell 5 (nth r1 0))),.int .i64 (D.toInt (D.cell 6 (nth r1 0))),.int .i64 (D.toInt (D.cell 7 (nth r1 0))),.int .i64 (D.toInt (D.cell 8 (nth r1 0)))]]).bind fun r2=>
 (go k spec_l37Acts [.ptr true [.arr false z2 (.ints IntKind.u8 l3),.int .i64 (D.toInt (D.cell 1 (nth r1 1))),.int .i64 (D.toInt (D.cell 2 (nth r1 1)))]]).bind fun r3=>
 some [wC true (nth r2 0),.arr true (D.nil (nth r3 0)) (.r4 (D.r4 (nth r3 0)))]))
 ((go k spec_l07State [.ptr true [.arr false z2 (.ints IntKind.u8 l3),.int .i64 0,.int .i64 x0]]).bind fun r4=>
 (go k spec_l18Plan [.ptr true [.arr false z2 (.ints IntKind.u8 l3),.int .i64 (D.toInt (D.cell 1 (nth r4 1))),.int .i64 (D.toInt (D.cell 2 (nth r4 1)))]]).bind fun r5=>
 (go k spec_WorldNew [sC false (nth r4 0),.agg [.int .i64 (D.toInt (D.cell 0 (nth r5 0))),.int .i64 (D.toInt (D.cell 1 (nth r5 0))),.int .i64 (D.toInt (D.cell 2 (nth r5 0))),.int .i64 (D.toInt (D.cell 3 (nth r5 0))),.int .i64 (D.toInt (D.cell 4 (nth r5 0))),.int .i64 (D.toInt (D.cell 5 (nth r5 0))),.int .i64 (D.toInt (D.cell 6 (nth r5 0))),.int .i64 (D.toInt (D.cell 7 (nth r5 0))),.int .i64 (D.toInt (D.cell 8 (nth r5 0)))]]).bind fun r6=>
 (go k spec_l37Acts [.ptr true [.arr false z2 (.ints IntKind.u8 l3),.int .i64 (D.toInt (D.cell 1 (nth r5 1))),.int .i64 (D.toInt (D.cell 2 (nth r5 1)))]]).bind fun r7=>
 some [wC true (nth r6 0),.arr true (D.nil (nth r7 0)) (.r4 (D.r4 (nth r7 0)))]):=by kernel_rfl

end Go.Proofs.YtjfjniebmdafeaaGreatDoor
end
section
namespace Go.Proofs.YtjfjniebmdafeaaGreatDoor
open Go.Ev
set_option maxRecDepth 20000
structure Good (w:Wd) (K:Nat):Prop where
  F:StF w.r w.s.1 w.s.2.1 w.s.2.2 w.b
  p:qwn w.p.bi w.p.bs w.p.bo w.p.rain w.p.loss w.p.dec w.p.high w.p.low w.p.every=true
  k:0≤w.k∧w.k≤K
  L:LdB w.ld (40000000000*K)
  f:isum w.s.2.1 - w.ld.mi+w.ld.mo=w.f
  g:isum w.s.2.2 - w.ld.ti+w.ld.ou=w.g
theorem Good.ok {w:Wd}{K:Nat}(G:Good w K)(hK:K≤10000):wdOk w=true:=by
  have a:=G.k; have b1:=G.L.mi; have b2:=G.L.mo; have b3:=G.L.ti; have b4:=G.L.ou
  unfold wdOk q23 qsi
  simp only [Bool.and_eq_true,decide_eq_true_eq]
  exact ⟨stF.2 G.F,G.p,qpe.2 (by omega),⟨qpe.2 (by omega),qpe.2 (by omega),qpe.2 (by omega),qpe.2 (by omega)⟩,G.f,G.g⟩
theorem Good.mono {w:Wd}{K N:Nat}(G:Good w K)(h:K≤N):Good w N:=by
  have a:=G.k; have b1:=G.L.mi; have b2:=G.L.mo; have b3:=G.L.ti; have b4:=G.L.ou
  exact ⟨G.F,G.p,by omega,⟨by omega,by omega,by omega,by omega⟩,G.f,G.g⟩
theorem Good.next {w:Wd}{K:Nat}(G:Good w K):Good w.next (K+1):=by
  have h:=quu (s:=w.s) G.F (qwm G.p) w.k
  have a:=G.k; have l:=G.L; have q:=h.2
  have l1:=l.mi; have l2:=l.mo; have l3:=l.ti; have l4:=l.ou
  have q1:=q.mi; have q2:=q.mo; have q3:=q.ti; have q4:=q.ou
  have qm:=q.m; have qt:=q.t; have ef:=G.f; have eg:=G.g
  refine ⟨h.1,G.p,?_,⟨?_,?_,?_,?_⟩,?_,?_⟩
  · show 0≤w.k+1∧w.k+1≤_; omega
  · show 0≤w.ld.mi+_∧w.ld.mi+_≤_; omega
  · show 0≤w.ld.mo+_∧w.ld.mo+_≤_; omega
  · show 0≤w.ld.ti+_∧w.ld.ti+_≤_; omega
  · show 0≤w.ld.ou+_∧w.ld.ou+_≤_; omega
  · show isum (mac w.p w.b w.k w.s).1.2.1 - (w.ld.mi+(mac w.p w.b w.k w.s).2.mi)+(w.ld.mo+(mac w.p w.b w.k w.s).2.mo)=w.f
    omega
  · show isum (mac w.p w.b w.k w.s).1.2.2 - (w.ld.ti+(mac w.p w.b w.k w.s).2.ti)+(w.ld.ou+(mac w.p w.b w.k w.s).2.ou)=w.g
    omega
theorem qa7: ∀ (n:Nat)(w:Wd)(K:Nat),Good w K→Good (advN n w) (K+n)
  | 0,w,K,G=>G
  | n+1,w,K,G=>by have:=qa7 n w.next (K+1) G.next; rw [show K+1+n=K+(n+1) by omega] at this; exact this
theorem Good.adv {w:Wd}{K:Nat}(G:Good w K)(n:Nat)(i:Int)(h:i≤n):Good (adv w i) (K+n):=by
  unfold Go.Proofs.YtjfjniebmdafeaaGreatDoor.adv
  cases g:qa8 w i
  · exact G.mono (by omega)
  · exact (qa7 i.toNat w K G).mono (by omega)
theorem Good.drp1 {w:Wd}{K:Nat}(G:Good w K){p m h:Int}(g:qi0 w p m h=true):Good (drp1 w p m h) (K+1):=by
  unfold qi0 qiy at g
  simp only [Bool.and_eq_true,decide_eq_true_eq,qpe] at g
  obtain ⟨g1,g2,g3,g4,g5⟩:=g
  have F:=G.F
  have lf:=qse w.r w.s.1 p
  obtain ⟨i,hi⟩: ∃ i:Nat,qsd w.r w.s.1 p=(i:Int):=⟨(qsd w.r w.s.1 p).toNat,by omega⟩
  have fl:=F.len; have ml:=F.ml; have tl:=F.tl
  have mm:=qvi g2.1 g2.2 g3.1 g3.2
  have mh:=qpf (a:=m) (c:=h) (by omega) g3
  have im:i<w.s.2.1.length:=by omega
  have it:i<w.s.2.2.length:=by omega
  have fi:=F.at i
  have e1:isum (w.s.2.1.set i (w.s.2.1.getD i 0+m))=isum w.s.2.1+m:=by rw [qpu _ _ _ im]; omega
  have e2:isum (w.s.2.2.set i (w.s.2.2.getD i 0+m*h))=isum w.s.2.2+m*h:=by rw [qpu _ _ _ it]; omega
  have a:=G.k; have b1:=G.L.mi; have b2:=G.L.mo; have b3:=G.L.ti; have b4:=G.L.ou
  have ef:=G.f; have eg:=G.g
  unfold Go.Proofs.YtjfjniebmdafeaaGreatDoor.drp1
  rw [hi,Int.toNat_natCast]
  refine ⟨F.mk' (by rw [List.length_set]; exact ml) (by rw [List.length_set]; exact tl) ?_ ?_,G.p,by show 0≤w.k∧w.k≤_; omega,⟨?_,?_,?_,?_⟩,?_,?_⟩
  · intro j hj
    have fj:=F.at j
    show 0≤(w.s.2.1.set i (w.s.2.1.getD i 0+m)).getD j 0∧0≤(w.s.2.2.set i (w.s.2.2.getD i 0+m*h)).getD j 0∧(w.s.2.2.set i (w.s.2.2.getD i 0+m*h)).getD j 0≤1000*(w.s.2.1.set i (w.s.2.1.getD i 0+m)).getD j 0
    rw [qz1 im,qz1 it]
    by_cases q:i=j
    · rw [if_pos q,if_pos q]; omega
    · rw [if_neg q,if_neg q]; omega
  · show isum (w.s.2.1.set i (w.s.2.1.getD i 0+m))≤10000000; omega
  · show 0≤w.ld.mi+m∧w.ld.mi+m≤_; omega
  · show 0≤w.ld.mo∧w.ld.mo≤_; omega
  · show 0≤w.ld.ti+m*h∧w.ld.ti+m*h≤_; omega
  · show 0≤w.ld.ou∧w.ld.ou≤_; omega
  · show isum (w.s.2.1.set i (w.s.2.1.getD i 0+m)) - (w.ld.mi+m)+w.ld.mo=w.f; omega
  · show isum (w.s.2.2.set i (w.s.2.2.getD i 0+m*h)) - (w.ld.ti+m*h)+w.ld.ou=w.g; omega
theorem Good.drp {w:Wd}{K:Nat}(G:Good w K)(p m h:Int):Good (drp w p m h) (K+1):=by
  unfold Go.Proofs.YtjfjniebmdafeaaGreatDoor.drp
  cases g:qi0 w p m h
  · exact G.mono (by omega)
  · exact G.drp1 g
def Act1 (x:Int×Int×Int×Int):Prop:=qav x.1 x.2.1 x.2.2.1 x.2.2.2=true
structure Fit (w:Wd) (M:Int):Prop where
  m:isum w.s.2.1≤M
  bi:w.p.bi≤3000
  rain:w.p.rain≤900
theorem qwi {a:Int}(ha:0≤a∧a≤900)(l:List Cell): ∀ n:Nat,q1f (part a l) n≤900*n
  | 0=>by simp [q1f]
  | n+1=>by
    have:=qwi ha l n
    have h:=qwj (a:=a) (by omega) l n
    simp only [q1f]
    omega
theorem qoi {p:Pl}(P:PlF p)(h1:p.bi≤3000)(h2:p.rain≤900)(l:List Cell)(b:List Int)(s:S2):(flow p l b s).2.mi≤3000+900*l.length:=by
  have e1:(boS p.bi p.bs p.bo s).2.mi≤3000:=by
    have:=P.bi
    unfold boS
    split
    · exact h1
    · show (0:Int)≤3000; decide
  have e2: ∀ x:S2,(raS p.rain l x).2.mi≤900*l.length:=fun x=>by
    unfold raS
    split
    · exact qwi ⟨P.rain.1,h2⟩ l l.length
    · show (0:Int)≤_; omega
  have e2' :=e2 (boS p.bi p.bs p.bo s).1
  show (boS p.bi p.bs p.bo s).2.mi+(raS p.rain l (boS p.bi p.bs p.bo s).1).2.mi+0+0≤_
  omega
theorem quv {p:Pl}(P:PlF p)(h1:p.bi≤3000)(h2:p.rain≤900)(b:List Int)(k:Int)(s:S3):(mac p b k s).2.mi≤3000+900*s.1.length:=qoi P h1 h2 s.1 b s.2
theorem Fit.next {w:Wd}{K:Nat}{M:Int}(G:Good w K)(T:Fit w M):Fit w.next (M+118200):=by
  have h:=(quu (s:=w.s) G.F (qwm G.p) w.k).2
  have a:=quv (qwm G.p) T.bi T.rain w.b w.k w.s
  have l:=G.F.len; have m:=T.m
  have q1:=h.m; have q2:=h.mo
  exact ⟨by show isum (mac w.p w.b w.k w.s).1.2.1≤_; omega,T.bi,T.rain⟩
end Go.Proofs.YtjfjniebmdafeaaGreatDoor
end
section
namespace Go.Proofs.YtjfjniebmdafeaaGreatDoor
open Go.Ev
set_option maxRecDepth 20000
theorem qu0: ∀ (m t:List Int)(x y:Int),m.length=t.length→quw m t=true→0≤x→x≤10000000→0≤y→y≤1000*x→quw (m++[x]) (t++[y])=true
  | [],[],x,y,_,_,h1,h2,h3,h4=>by simp only [List.nil_append,quw,Bool.and_eq_true,qpe]; exact ⟨⟨h1,h2⟩,⟨h3,h4⟩,trivial⟩
  | [],_::_,_,_,h,_,_,_,_,_=>by simp at h
  | _::_,[],_,_,h,_,_,_,_,_=>by simp at h
  | a::m,b::t,x,y,hl,h,h1,h2,h3,h4=>by
    simp only [List.cons_append,quw,Bool.and_eq_true] at h ⊢
    exact ⟨h.1,h.2.1,qu0 m t x y (by simpa using hl) h.2.2 h1 h2 h3 h4⟩
theorem qbq: ∀ (a:List Int)(x:Int),qbo a=true→0≤x→x≤1000000→qbo (a++[x])=true
  | [],x,_,h1,h2=>by simp only [List.nil_append,qbo,Bool.and_eq_true,qpe]; exact ⟨⟨h1,h2⟩,trivial⟩
  | a::l,x,h,h1,h2=>by
    simp only [List.cons_append,qbo,Bool.and_eq_true] at h ⊢
    exact ⟨h.1,qbq l x h.2 h1 h2⟩
theorem qul (k:Nat)(hk:2000000≤k)(fu:List (Nat×Nat))(v0:Bool)(v1:List Int)(v2 v3:Int)(x0:Int)(hx:1≤x0)(hx' :x0≤20000)(z:Bool)(l:List Int)(hl:(l.length:Int)≤1048576)(z6:Bool)(l7:List Cell)(z8:Bool)(l9:List Int)(z10:Bool)(l11:List Int)(z12:Bool)(l13:List Int)(x14:Int)(c:List Cell)(hc:1≤c.length)(hc' :c.length≤128)(x17:Int)(bd:List Int)(r:Int):
    ∀ (n t:Nat)(i h:Int)(zm zt:Bool)(m tr:List Int),t≤c.length→c.length - t<n→0≤i→i≤l.length→(zm=false∨t=0)→(zt=false∨t=0)→m.length=t→tr.length=t→quw m tr=true→isum m≤20000*t→
    ∃ (m' t' :List Int)(i' h' :Int),lp (k+10) spec_l07State [(.ptr true [(.arr false (v0) (.ints IntKind.u8 (v1))),(.int .i64 (v2)),(.int .i64 (v3))])] fu 9 (n) (qzl x0 (t:Int) z l i h z6 l7 z8 l9 z10 l11 z12 l13 x14 false c x17 zm m zt tr false bd r)=some [.agg [.int .i64 (r),.arr true (false) (.r3 (c)),.arr true (false) (.ints .i64 (m')),.arr true (false) (.ints .i64 (t')),.arr true (false) (.ints .i64 (bd))],.ptr true [.arr false (z) (.ints .u8 (l)),.int .i64 (i'),.int .i64 (h')]]∧(0≤i' ∧i' ≤l.length)∧m'.length=c.length∧t'.length=c.length∧quw m' t' =true∧isum m' ≤2560000
  | 0,t,i,h,zm,zt,m,tr,ht,hn,h0,h1,hzm,hzt,lm,lt,ok,sm=>by omega
  | n+1,t,i,h,zm,zt,m,tr,ht,hn,h0,h1,hzm,hzt,lm,lt,ok,sm=>by
    have e:=qr0 (k+10) n fu v0 v1 v2 v3 x0 (t:Int) z l i h z6 l7 z8 l9 z10 l11 z12 l13 x14 false c x17 zm m zt tr false bd r
    by_cases g:t<c.length
    · have la: ∀ x:Int,(m++[x]).length=t+1:=fun x=>by rw [List.length_append,lm]; rfl
      have lb: ∀ x:Int,(tr++[x]).length=t+1:=fun x=>by rw [List.length_append,lt]; rfl
      have step: ∀ (x y:Int),0≤x→x<20000→0≤y→y≤1000*x→ ∀ (i2 k2:Int),0≤i2→i2≤l.length→_:=fun x y hx0 hx1 hy0 hy1 i2 k2 hi0 hi1=>
        qul k hk fu v0 v1 v2 v3 x0 hx hx' z l hl z6 l7 z8 l9 z10 l11 z12 l13 x14 c hc hc' x17 bd r n (t+1) i2 k2 false false (m++[x]) (tr++[y]) (by omega) (by omega) hi0 hi1 (Or.inl rfl) (Or.inl rfl) (la x) (lb y) (qu0 m tr x y (by omega) ok (by omega) (by omega) hy0 hy1) (by rw [qpo]; simp only [isum]; omega)
      obtain ⟨u1,i1,k1,e1,b1,q1,r1⟩:=qf5 (k+8) (by omega) z l i h x0 hl h0 h1 hx (by omega)
      obtain ⟨u2,i2,k2,e2,q2,r2⟩:=qf8 (k+7) (by omega) z l i1 k1 6 hl q1 r1 (by omega) (by omega)
      cases u2
      · obtain ⟨u3,i3,k3,e3,b3,q3,r3⟩:=qf5 (k+8) (by omega) z l i2 k2 200 hl q2 r2 (by omega) (by omega)
        obtain ⟨u4,i4,k4,e4,b4,q4,r4⟩:=qf5 (k+8) (by omega) z l i3 k3 (u1+1) hl q3 r3 (by omega) (by omega)
        have p0:0≤u1*u3:=Int.mul_nonneg b1.1 b3.1
        have p1:u1*u3≤u1*199:=Int.mul_le_mul_of_nonneg_left (by omega) b1.1
        obtain ⟨m',t',i',h',e5,p5⟩:=step u1 (u1*u3+u4) (by omega) (by omega) (by omega) (by omega) i4 k4 q4 r4
        simp (disch:=omega) only [wk,bit,nI,e1,qwt,qwu,qwv,e2,e3,e4,la,lb,e5] at e
        exact ⟨m',t',i',h',e,p5⟩
      · obtain ⟨u0,i0,k0,e0,b0,q0,r0⟩:=qf5 (k+8) (by omega) z l i2 k2 3 hl q2 r2 (by omega) (by omega)
        obtain ⟨u3,i3,k3,e3,b3,q3,r3⟩:=qf5 (k+8) (by omega) z l i0 k0 200 hl q0 r0 (by omega) (by omega)
        obtain ⟨u4,i4,k4,e4,b4,q4,r4⟩:=qf5 (k+8) (by omega) z l i3 k3 (u0+1) hl q3 r3 (by omega) (by omega)
        have p0:0≤u0*u3:=Int.mul_nonneg b0.1 b3.1
        have p1:u0*u3≤u0*199:=Int.mul_le_mul_of_nonneg_left (by omega) b0.1
        obtain ⟨m',t',i',h',e5,p5⟩:=step u0 (u0*u3+u4) (by omega) (by omega) (by omega) (by omega) i4 k4 q4 r4
        simp (disch:=omega) only [wk,bit,nI,e1,qwt,qwu,qwv,e2,e0,e3,e4,la,lb,e5] at e
        exact ⟨m',t',i',h',e,p5⟩
    · have:zm=false:=by rcases hzm with h | h<;>omega
      subst this
      have:zt=false:=by rcases hzt with h | h<;>omega
      subst this
      simp (disch:=omega) only [wk,bit,nI] at e
      exact ⟨m,tr,i,h,e,⟨h0,h1⟩,by omega,by omega,ok,by omega⟩
theorem quk (k:Nat)(hk:2000000≤k)(fu:List (Nat×Nat))(v0:Bool)(v1:List Int)(v2 v3:Int)(z:Bool)(l:List Int)(hl:(l.length:Int)≤1048576)(z6:Bool)(l7:List Cell)(z8:Bool)(l9:List Int)(z10:Bool)(l11:List Int)(z12:Bool)(l13:List Int)(x14:Int)(c:List Cell)(R:Nat)(hR:1≤R)(hR' :R≤3)(hm:qu6 R 0 c=true)(hu:unb c<0):
    ∀ (n t:Nat)(i h:Int)(zb:Bool)(bd:List Int),t≤R→R - t<n→0≤i→i≤l.length→(zb=false∨t=0)→bd.length=t→qbo bd=true→
    ∃ (m' t' bd' :List Int)(i' h' :Int),lp (k+10) spec_l07State [(.ptr true [(.arr false (v0) (.ints IntKind.u8 (v1))),(.int .i64 (v2)),(.int .i64 (v3))])] fu 4 (n) (qzk (t:Int) z l i h z6 l7 z8 l9 z10 l11 z12 l13 x14 false c (R:Int) true [] true [] zb bd (R:Int))=some [.agg [.int .i64 ((R:Int)),.arr true (false) (.r3 (c)),.arr true (false) (.ints .i64 (m')),.arr true (false) (.ints .i64 (t')),.arr true (false) (.ints .i64 (bd'))],.ptr true [.arr false (z) (.ints .u8 (l)),.int .i64 (i'),.int .i64 (h')]]∧(0≤i' ∧i' ≤l.length)∧StF (R:Int) c m' t' bd' ∧isum m' ≤2560000
  | 0,t,i,h,zb,bd,ht,hn,h0,h1,hz,lb,ok=>by omega
  | n+1,t,i,h,zb,bd,ht,hn,h0,h1,hz,lb,ok=>by
    have e:=qrz (k+10) n fu v0 v1 v2 v3 (t:Int) z l i h z6 l7 z8 l9 z10 l11 z12 l13 x14 false c (R:Int) true [] true [] zb bd (R:Int)
    by_cases g:t<R
    · have la: ∀ x:Int,(bd++[x]).length=t+1:=fun x=>by rw [List.length_append,lb]; rfl
      obtain ⟨u1,i1,k1,e1,b1,q1,r1⟩:=qf5 (k+8) (by omega) z l i h 4 hl h0 h1 (by omega) (by omega)
      obtain ⟨u2,i2,k2,e2,b2,q2,r2⟩:=qf5 (k+8) (by omega) z l i1 k1 5000 hl q1 r1 (by omega) (by omega)
      have p0:0≤u1*u2:=Int.mul_nonneg b1.1 b2.1
      have p1:u1*u2≤u1*4999:=Int.mul_le_mul_of_nonneg_left (by omega) b1.1
      obtain ⟨m',t',bd',i',h',e5,p5⟩:=quk k hk fu v0 v1 v2 v3 z l hl z6 l7 z8 l9 z10 l11 z12 l13 x14 c R hR hR' hm hu n (t+1) i2 k2 false (bd++[u1*u2]) (by omega) (by omega) q2 r2 (Or.inl rfl) (la _) (qbq bd _ ok p0 (by omega))
      simp (disch:=omega) only [wk,bit,nI,e1,qwt,qwu,qwv,e2,la,e5] at e
      exact ⟨m',t',bd',i',h',e,p5⟩
    · have:zb=false:=by rcases hz with h | h<;>omega
      subst this
      obtain ⟨u1,i1,k1,e1,b1,q1,r1⟩:=qf5 (k+8) (by omega) z l i h 20000 hl h0 h1 (by omega) (by omega)
      have ml:=qvb hm
      obtain ⟨m',t',i',h',e5,p5,lm,lt,mk,sm⟩:=qul k hk fu v0 v1 v2 v3 (1+u1) (by omega) (by omega) z l hl z6 l7 z8 l9 z10 l11 z12 l13 x14 c ml.1 ml.2 (R:Int) bd (R:Int) (k+10) 0 i1 k1 true true [] [] (by omega) (by omega) q1 r1 (Or.inr rfl) (Or.inr rfl) rfl rfl rfl (by simp [isum])
      rw [show ((0:Nat):Int)=0 from rfl] at e5
      simp (disch:=omega) only [wk,bit,nI,e1,qwt,qwu,qwv,e5] at e
      exact ⟨m',t',bd,i',h',e,p5,⟨hm,hu,lm,lt,by omega,mk,ok,by omega⟩,sm⟩
theorem qgl (k:Nat)(hk:2000000≤k)(z:Bool)(l:List Int)(i h:Int)(hl:(l.length:Int)≤1048576)(h0:0≤i)(h1:i≤l.length):
    ∃ (r:Int)(c:List Cell)(m t b:List Int)(i' h' :Int),go (k+11) spec_l07State [.ptr true [.arr false (z) (.ints .u8 (l)),.int .i64 (i),.int .i64 (h)]]=some [.agg [.int .i64 (r),.arr true (false) (.r3 (c)),.arr true (false) (.ints .i64 (m)),.arr true (false) (.ints .i64 (t)),.arr true (false) (.ints .i64 (b))],.ptr true [.arr false (z) (.ints .u8 (l)),.int .i64 (i'),.int .i64 (h')]]∧(0≤i' ∧i' ≤l.length)∧StF r c m t b∧r≤3∧isum m≤2560000:=by
  have e:=qm8 (k+10) z l i h
  obtain ⟨r,c,i1,k1,e1,q1,hm,hu,r3⟩:=qgg k (by omega) z l i h hl h0 h1
  have rr:=(qva _ _ _ hm).1
  obtain ⟨R,rfl⟩: ∃ R:Nat,r=(R:Int):=⟨r.toNat,by omega⟩
  obtain ⟨m',t',bd',i',h',e5,p5,S,sm⟩:=quk k hk [] z l i h z l hl true [] true [] true [] true [] 0 c R (by omega) (by omega) hm hu (k+10) 0 i1 k1 true [] (by omega) (by omega) q1.1 q1.2 (Or.inr rfl) rfl rfl
  rw [show ((0:Nat):Int)=0 from rfl] at e5
  simp (disch:=omega) only [wk,bit,nI,e1,qwt,qwu,qwv,e5] at e
  exact ⟨_,_,_,_,_,_,_,e,p5,S,r3,sm⟩
end Go.Proofs.YtjfjniebmdafeaaGreatDoor
end
