/- What the program's functions compute, and plain facts of it (part 4). No condition beyond those that each theorem states. -/
import Derived.Test.YtjfjniebmdafeaaGreatDoorQR3
set_option linter.unusedVariables false
set_option linter.unusedSimpArgs false
section
namespace Go.Proofs.YtjfjniebmdafeaaGreatDoor
open Go.Ev
set_option maxRecDepth 20000
abbrev soF (a:Int)(l:List Cell)(m:List Int)(j:Nat):Int:=m.getD j 0 - soX a l m j
abbrev soG (a:Int)(l:List Cell)(m t:List Int)(j:Nat):Int:=t.getD j 0 - soY a l m t j
theorem qul (k:Nat)(hk:2000000≤k)(fu:List (Nat×Nat))(a0:Int)(a1z:Bool)(a1:List Cell)(a2z:Bool)(a2:List Int)(a3z:Bool)(a3:List Int)(a4z:Bool)(a4:List Int)(z1 z2 z3 z4:Bool)(r:Int)(l:List Cell)(m t b:List Int)(a:Int)(ha:0≤a∧a≤10000)(F:StF r l m t b)(p0 p1 p2 p3:Int): ∀ (N i:Nat),i≤l.length→l.length - i<N→
    lp (k+4) impl_State_soak [(.ptr true [(.int .i64 (a0)),(.arr true (a1z) (.r3 (a1))),(.arr true (a2z) (.ints .i64 (a2))),(.arr true (a3z) (.ints .i64 (a3))),(.arr true (a4z) (.ints .i64 (a4)))])] fu 3 (N) (qzv a (l.length:Int) (i:Int) z1 l z2 (upto l.length i (soF a l m) (fun j=>m.getD j 0)) z3 (upto l.length i (soG a l m t) (fun j=>t.getD j 0)) z4 b r p0 p1 p2 p3 0 (q2o (soX a l m) i) 0 (q2o (soY a l m t) i))=some [.agg [.int .i64 0,.int .i64 (q2o (soX a l m) l.length),.int .i64 0,.int .i64 (q2o (soY a l m t) l.length)],.ptr true [.int .i64 (r),.arr true (z1) (.r3 (l)),.arr true (z2) (.ints .i64 (tab l.length (soF a l m))),.arr true (z3) (.ints .i64 (tab l.length (soG a l m t))),.arr true (z4) (.ints .i64 (b))]]
  | 0,i,hi,hN=>by omega
  | N+1,i,hi,hN=>by
    rw [qry]
    have L:=F.len; have f:=F.at i; have p:=qxj ha l i
    by_cases g:i<l.length
    · have IH:=qul k hk fu a0 a1z a1 a2z a2 a3z a3 a4z a4 z1 z2 z3 z4 r l m t b a ha F p0 p1 p2 p3 N (i+1) (by omega) (by omega)
      rw [show q2o (soX a l m) (i+1)=q2o (soX a l m) i+soX a l m i from rfl,show q2o (soY a l m t) (i+1)=q2o (soY a l m t) i+soY a l m t i from rfl] at IH
      have s1:(upto l.length i (soF a l m) (fun j=>m.getD j 0)).set i (m.getD i 0 - soX a l m i)=upto l.length (i+1) (soF a l m) (fun j=>m.getD j 0):=q3x _ _ _ _ _ rfl
      have s2:(upto l.length i (soG a l m t) (fun j=>t.getD j 0)).set i (t.getD i 0 - soY a l m t i)=upto l.length (i+1) (soG a l m t) (fun j=>t.getD j 0):=q3x _ _ _ _ _ rfl
      have g1:(upto l.length i (soF a l m) (fun j=>m.getD j 0)).getD i 0=m.getD i 0:=q3v g
      have g2:(upto l.length i (soG a l m t) (fun j=>t.getD j 0)).getD i 0=t.getD i 0:=q3v g
      have x1:=q1m F ha i; have y1:=(q1n F ha i).1
      have q:=q1o F ha i
      have q1:=q1o F ha l.length
      have ms:=F.msum; have ts:=F.tle
      have d1:=q2r F.mmem i; have d2:=q2r F.tmem i
      have ex:min (part a l i) (m.getD i 0)=soX a l m i:=Int.min_comm _ _
      have ey:q1c (t.getD i 0) (soX a l m i) (m.getD i 0)=soY a l m t i:=rfl
      simp (disch:=omega) only [wk,bit,nI,q3w,qdz,g1,g2,ex,qcq,ey,s1,s2,IH]
    · have:i=l.length:=by omega
      subst this
      simp (disch:=omega) only [wk,bit,nI,q3u]
theorem qd7 (k:Nat)(hk:2000000≤k)(z1 z2 z3 z4:Bool)(r:Int)(l:List Cell)(m t b:List Int)(a:Int)(ha:0≤a∧a≤10000)(F:StF r l m t b):
    go (k+5) impl_State_soak [.ptr true [.int .i64 (r),.arr true (z1) (.r3 (l)),.arr true (z2) (.ints .i64 (m)),.arr true (z3) (.ints .i64 (t)),.arr true (z4) (.ints .i64 (b))],.int .i64 a]=some [.agg [.int .i64 0,.int .i64 (soS a l (m,t)).2.mo,.int .i64 0,.int .i64 (soS a l (m,t)).2.ou],.ptr true [.int .i64 (r),.arr true (z1) (.r3 (l)),.arr true (z2) (.ints .i64 ((soS a l (m,t)).1.1)),.arr true (z3) (.ints .i64 ((soS a l (m,t)).1.2)),.arr true (z4) (.ints .i64 (b))]]:=by
  rw [qkx]
  have ml:=F.ml; have tl:=F.tl
  have e:=qul k hk [] r z1 l z2 m z3 t z4 b z1 z2 z3 z4 r l m t b a ha F 0 0 0 0 (k+4) 0 (by omega) (by have:=F.len; omega)
  rw [show ((0:Nat):Int)=0 from rfl,show q2o (soX a l m) 0=0 from rfl,show q2o (soY a l m t) 0=0 from rfl,q3y m l.length ml,q3y t l.length tl] at e
  simp (disch:=omega) only [wk,bit,nI,ml]
  exact e
theorem qvq (k:Nat)(hk:2000000≤k)(fu:List (Nat×Nat))(z1 z2 z3 z4:Bool)(r:Int)(l:List Cell)(m t b:List Int)(a:Int)(ha:0≤a∧a≤10000)(F:StF r l m t b)(y1 y2 y3 y4:Bool)(q1:List Cell)(q2 q3 q4:List Int)(p0 p1 p2 p3 p4:Int): ∀ (N i:Nat),i≤l.length→l.length - i<N→
    lp (k+3) spec_l14Soak [] fu 4 (N) (q0y a (i:Int) z1 l z2 m z3 t z4 b r y1 q1 y2 q2 y3 q3 y4 q4 p0 p1 p2 p3 p4 false l false (upto l.length i (soF a l m) (fun j=>m.getD j 0)) false (upto l.length i (soG a l m t) (fun j=>t.getD j 0)) false b r 0 (q2o (soX a l m) i) 0 (q2o (soY a l m t) i))=some [.agg [.int .i64 (r),.arr true (false) (.r3 (l)),.arr true (false) (.ints .i64 (tab l.length (soF a l m))),.arr true (false) (.ints .i64 (tab l.length (soG a l m t))),.arr true (false) (.ints .i64 (b))],.agg [.int .i64 0,.int .i64 (q2o (soX a l m) l.length),.int .i64 0,.int .i64 (q2o (soY a l m t) l.length)]]
  | 0,i,hi,hN=>by omega
  | N+1,i,hi,hN=>by
    rw [qs1]
    have L:=F.len; have f:=F.at i; have p:=qxj ha l i; have ml:=F.ml; have tl:=F.tl
    by_cases g:i<l.length
    · have IH:=qvq k hk fu z1 z2 z3 z4 r l m t b a ha F y1 y2 y3 y4 q1 q2 q3 q4 p0 p1 p2 p3 p4 N (i+1) (by omega) (by omega)
      rw [show q2o (soX a l m) (i+1)=q2o (soX a l m) i+soX a l m i from rfl,show q2o (soY a l m t) (i+1)=q2o (soY a l m t) i+soY a l m t i from rfl] at IH
      have s1:(upto l.length i (soF a l m) (fun j=>m.getD j 0)).set i (m.getD i 0 - soX a l m i)=upto l.length (i+1) (soF a l m) (fun j=>m.getD j 0):=q3x _ _ _ _ _ rfl
      have s2:(upto l.length i (soG a l m t) (fun j=>t.getD j 0)).set i (t.getD i 0 - soY a l m t i)=upto l.length (i+1) (soG a l m t) (fun j=>t.getD j 0):=q3x _ _ _ _ _ rfl
      have g1:(upto l.length i (soF a l m) (fun j=>m.getD j 0)).getD i 0=m.getD i 0:=q3v g
      have g2:(upto l.length i (soG a l m t) (fun j=>t.getD j 0)).getD i 0=t.getD i 0:=q3v g
      have x1:=q1m F ha i; have y1:=(q1n F ha i).1
      have q:=q1o F ha i
      have ms:=F.msum; have ts:=F.tle
      have d1:=q2r F.mmem i; have d2:=q2r F.tmem i
      have ex:min (m.getD i 0) (part a l i)=soX a l m i:=rfl
      have ey:q1c (t.getD i 0) (soX a l m i) (m.getD i 0)=soY a l m t i:=rfl
      simp (disch:=omega) only [wk,bit,nI,q3w,qg3,g1,g2,imin,ex,qga,ey,s1,s2,IH]
    · have:i=l.length:=by omega
      subst this
      simp (disch:=omega) only [wk,bit,nI,q3u]
theorem qhe (k:Nat)(hk:2000000≤k)(z1 z2 z3 z4:Bool)(r:Int)(l:List Cell)(m t b:List Int)(a:Int)(ha:0≤a∧a≤10000)(F:StF r l m t b):
    go (k+4) spec_l14Soak [.agg [.int .i64 (r),.arr false (z1) (.r3 (l)),.arr false (z2) (.ints .i64 (m)),.arr false (z3) (.ints .i64 (t)),.arr false (z4) (.ints .i64 (b))],.int .i64 a]=some [.agg [.int .i64 (r),.arr true (false) (.r3 (l)),.arr true (false) (.ints .i64 ((soS a l (m,t)).1.1)),.arr true (false) (.ints .i64 ((soS a l (m,t)).1.2)),.arr true (false) (.ints .i64 (b))],.agg [.int .i64 0,.int .i64 (soS a l (m,t)).2.mo,.int .i64 0,.int .i64 (soS a l (m,t)).2.ou]]:=by
  rw [qod]
  have L:=F.len; have ml:=F.ml; have tl:=F.tl; have bl:=F.bl; have rr:=F.rr
  have e:=qvq k hk [] z1 z2 z3 z4 r l m t b a ha F true true true true [] [] [] [] 0 0 0 0 0 (k+3) 0 (by omega) (by omega)
  rw [show ((0:Nat):Int)=0 from rfl,show q2o (soX a l m) 0=0 from rfl,show q2o (soY a l m t) 0=0 from rfl,q3y m l.length ml,q3y t l.length tl] at e
  simp (disch:=omega) only [wk,bit,nI,qgu]
  exact e
abbrev deF (a:Int)(t:List Int)(j:Nat):Int:=t.getD j 0 - deX a t j
theorem q27 {r:Int}{l:List Cell}{m t b:List Int}(F:StF r l m t b){a:Int}(ha:0≤a∧a≤1000)(i:Nat):(0≤t.getD i 0*a∧t.getD i 0*a≤10000000000000)∧Int.tdiv (t.getD i 0*a) 1000=deX a t i:=by
  have f:=F.at i
  have h1:=Int.mul_nonneg f.2.2.1 ha.1
  have h2:t.getD i 0*a≤t.getD i 0*1000:=Int.mul_le_mul_of_nonneg_left ha.2 f.2.2.1
  exact ⟨⟨h1,by omega⟩,Int.tdiv_eq_ediv_of_nonneg h1⟩
theorem qiq {r:Int}{l:List Cell}{m t b:List Int}(F:StF r l m t b){a:Int}(ha:0≤a∧a≤1000)(n:Nat):0≤q2o (deX a t) n∧q2o (deX a t) n≤q2o (fun j=>t.getD j 0) n:=
  ⟨q2s n fun j _=>(qip F ha j).1,q2q n fun j _=>(qip F ha j).2⟩
theorem qug (k:Nat)(hk:2000000≤k)(fu:List (Nat×Nat))(a0:Int)(a1z:Bool)(a1:List Cell)(a2z:Bool)(a2:List Int)(a3z:Bool)(a3:List Int)(a4z:Bool)(a4:List Int)(z1 z2 z3 z4:Bool)(r:Int)(l:List Cell)(m t b:List Int)(a:Int)(ha:0≤a∧a≤1000)(F:StF r l m t b)(p0 p1 p2 p3:Int): ∀ (N i:Nat),i≤l.length→l.length - i<N→
    lp k impl_State_decay [(.ptr true [(.int .i64 (a0)),(.arr true (a1z) (.r3 (a1))),(.arr true (a2z) (.ints .i64 (a2))),(.arr true (a3z) (.ints .i64 (a3))),(.arr true (a4z) (.ints .i64 (a4)))])] fu 3 (N) (qzm a (l.length:Int) (i:Int) z1 l z2 m z3 (upto l.length i (deF a t) (fun j=>t.getD j 0)) z4 b r p0 p1 p2 p3 0 0 0 (q2o (deX a t) i))=some [.agg [.int .i64 0,.int .i64 0,.int .i64 0,.int .i64 (q2o (deX a t) l.length)],.ptr true [.int .i64 (r),.arr true (z1) (.r3 (l)),.arr true (z2) (.ints .i64 (m)),.arr true (z3) (.ints .i64 (tab l.length (deF a t))),.arr true (z4) (.ints .i64 (b))]]
  | 0,i,hi,hN=>by omega
  | N+1,i,hi,hN=>by
    rw [qrp]
    have L:=F.len; have f:=F.at i; have d:=q27 F ha i
    by_cases g:i<l.length
    · have IH:=qug k hk fu a0 a1z a1 a2z a2 a3z a3 a4z a4 z1 z2 z3 z4 r l m t b a ha F p0 p1 p2 p3 N (i+1) (by omega) (by omega)
      rw [show q2o (deX a t) (i+1)=q2o (deX a t) i+deX a t i from rfl] at IH
      have s2:(upto l.length i (deF a t) (fun j=>t.getD j 0)).set i (t.getD i 0 - deX a t i)=upto l.length (i+1) (deF a t) (fun j=>t.getD j 0):=q3x _ _ _ _ _ rfl
      have g2:(upto l.length i (deF a t) (fun j=>t.getD j 0)).getD i 0=t.getD i 0:=q3v g
      have x1:=qip F ha i; have q:=qiq F ha i; have ts:=F.tle; have d2:=q2r F.tmem i
      have ed:=d.2
      simp (disch:=omega) only [wk,bit,nI,q3w,g2,ed,s2,IH]
    · have:i=l.length:=by omega
      subst this
      simp (disch:=omega) only [wk,bit,nI,q3u]
theorem qde (k:Nat)(hk:2000000≤k)(z1 z2 z3 z4:Bool)(r:Int)(l:List Cell)(m t b:List Int)(a:Int)(ha:0≤a∧a≤1000)(F:StF r l m t b):
    go (k+1) impl_State_decay [.ptr true [.int .i64 (r),.arr true (z1) (.r3 (l)),.arr true (z2) (.ints .i64 (m)),.arr true (z3) (.ints .i64 (t)),.arr true (z4) (.ints .i64 (b))],.int .i64 a]=some [.agg [.int .i64 0,.int .i64 0,.int .i64 0,.int .i64 (deS a l (m,t)).2.ou],.ptr true [.int .i64 (r),.arr true (z1) (.r3 (l)),.arr true (z2) (.ints .i64 (m)),.arr true (z3) (.ints .i64 ((deS a l (m,t)).1.2)),.arr true (z4) (.ints .i64 (b))]]:=by
  rw [qkj]
  have ml:=F.ml; have tl:=F.tl
  have e:=qug k hk [] r z1 l z2 m z3 t z4 b z1 z2 z3 z4 r l m t b a ha F 0 0 0 0 (k+0) 0 (by omega) (by have:=F.len; omega)
  rw [show ((0:Nat):Int)=0 from rfl,show q2o (deX a t) 0=0 from rfl,q3y t l.length tl] at e
  simp (disch:=omega) only [wk,bit,nI,tl]
  exact e
theorem qvk (k:Nat)(hk:2000000≤k)(fu:List (Nat×Nat))(z1 z2 z3 z4:Bool)(r:Int)(l:List Cell)(m t b:List Int)(a:Int)(ha:0≤a∧a≤1000)(F:StF r l m t b)(y1 y2 y3 y4:Bool)(q1:List Cell)(q2 q3 q4:List Int)(p0 p1 p2 p3 p4:Int): ∀ (N i:Nat),i≤l.length→l.length - i<N→
    lp (k+2) spec_l15Decay [] fu 4 (N) (q0z a (i:Int) z1 l z2 m z3 t z4 b r y1 q1 y2 q2 y3 q3 y4 q4 p0 p1 p2 p3 p4 false l false m false (upto l.length i (deF a t) (fun j=>t.getD j 0)) false b r 0 0 0 (q2o (deX a t) i))=some [.agg [.int .i64 (r),.arr true (false) (.r3 (l)),.arr true (false) (.ints .i64 (m)),.arr true (false) (.ints .i64 (tab l.length (deF a t))),.arr true (false) (.ints .i64 (b))],.agg [.int .i64 0,.int .i64 0,.int .i64 0,.int .i64 (q2o (deX a t) l.length)]]
  | 0,i,hi,hN=>by omega
  | N+1,i,hi,hN=>by
    rw [qs2]
    have L:=F.len; have f:=F.at i; have d:=q27 F ha i; have tl:=F.tl
    by_cases g:i<l.length
    · have IH:=qvk k hk fu z1 z2 z3 z4 r l m t b a ha F y1 y2 y3 y4 q1 q2 q3 q4 p0 p1 p2 p3 p4 N (i+1) (by omega) (by omega)
      rw [show q2o (deX a t) (i+1)=q2o (deX a t) i+deX a t i from rfl] at IH
      have s2:(upto l.length i (deF a t) (fun j=>t.getD j 0)).set i (t.getD i 0 - deX a t i)=upto l.length (i+1) (deF a t) (fun j=>t.getD j 0):=q3x _ _ _ _ _ rfl
      have g2:(upto l.length i (deF a t) (fun j=>t.getD j 0)).getD i 0=t.getD i 0:=q3v g
      have x1:=qip F ha i; have q:=qiq F ha i; have ts:=F.tle; have d2:=q2r F.tmem i
      have ed:=d.2
      simp (disch:=omega) only [wk,bit,nI,q3w,g2,ed,s2,IH]
    · have:i=l.length:=by omega
      subst this
      simp (disch:=omega) only [wk,bit,nI,q3u]
theorem qgk (k:Nat)(hk:2000000≤k)(z1 z2 z3 z4:Bool)(r:Int)(l:List Cell)(m t b:List Int)(a:Int)(ha:0≤a∧a≤1000)(F:StF r l m t b):
    go (k+3) spec_l15Decay [.agg [.int .i64 (r),.arr false (z1) (.r3 (l)),.arr false (z2) (.ints .i64 (m)),.arr false (z3) (.ints .i64 (t)),.arr false (z4) (.ints .i64 (b))],.int .i64 a]=some [.agg [.int .i64 (r),.arr true (false) (.r3 (l)),.arr true (false) (.ints .i64 (m)),.arr true (false) (.ints .i64 ((deS a l (m,t)).1.2)),.arr true (false) (.ints .i64 (b))],.agg [.int .i64 0,.int .i64 0,.int .i64 0,.int .i64 (deS a l (m,t)).2.ou]]:=by
  rw [qoe]
  have L:=F.len; have ml:=F.ml; have tl:=F.tl; have bl:=F.bl; have rr:=F.rr
  have e:=qvk k hk [] z1 z2 z3 z4 r l m t b a ha F true true true true [] [] [] [] 0 0 0 0 0 (k+2) 0 (by omega) (by omega)
  rw [show ((0:Nat):Int)=0 from rfl,show q2o (deX a t) 0=0 from rfl,q3y t l.length tl] at e
  simp (disch:=omega) only [wk,bit,nI,qgu]
  exact e
end Go.Proofs.YtjfjniebmdafeaaGreatDoor
end
section
namespace Go.Proofs.YtjfjniebmdafeaaGreatDoor
open Go.Ev
set_option maxRecDepth 20000
theorem tnz:Int.toNat 0=0:=Eq.trans rfl rfl
theorem qd3 (k:Nat)(hk:2000000≤k)(z1 z2 z3 z4:Bool)(r:Int)(l:List Cell)(m t b:List Int)(i:Nat)(x:Int)(d0 d1 d2 d3:Int)(h1:i<m.length)(h2:i<t.length)(hl:m.length≤1048576)(hx:0≤x∧x≤m.getD i 0)(hm:m.getD i 0≤10000000)(ht:0≤t.getD i 0∧t.getD i 0≤10000000000)(hd:0≤d1∧d1≤1000000000000)(hd3:0≤d3∧d3≤1000000000000):
    go (k+3) impl_State_remove [.ptr true [.int .i64 (r),.arr true (z1) (.r3 (l)),.arr true (z2) (.ints .i64 (m)),.arr true (z3) (.ints .i64 (t)),.arr true (z4) (.ints .i64 (b))],.int .i64 (i:Int),.int .i64 x,.ptr true [.int .i64 d0,.int .i64 d1,.int .i64 d2,.int .i64 d3]]=
      some [.ptr true [.int .i64 (r),.arr true (z1) (.r3 (l)),.arr true (z2) (.ints .i64 (m.set i (m.getD i 0 - x))),.arr true (z3) (.ints .i64 (t.set i (t.getD i 0 - q1c (t.getD i 0) x (m.getD i 0)))),.arr true (z4) (.ints .i64 (b))],.ptr true [.int .i64 d0,.int .i64 (d1+x),.int .i64 d2,.int .i64 (d3+q1c (t.getD i 0) x (m.getD i 0))]]:=by
  rw [qku]
  have s:=q1e (t.getD i 0) x (m.getD i 0)
  simp (disch:=omega) only [wk,bit,nI,qcq]
theorem q28 {x o:Int}(hx:0≤x∧x≤10000000)(ho:0≤o∧o≤250):(0≤x*o∧x*o≤2500000000)∧Int.tdiv (x*o) 1000=x*o / 1000:=by
  have h1:=Int.mul_nonneg hx.1 ho.1
  have h2:x*o≤x*250:=Int.mul_le_mul_of_nonneg_left ho.2 hx.1
  exact ⟨⟨h1,by omega⟩,Int.tdiv_eq_ediv_of_nonneg h1⟩
abbrev ldD (x:Ld):D:=.agg [.int .i64 x.mi,.int .i64 x.mo,.int .i64 x.ti,.int .i64 x.ou]
theorem qc8 (k:Nat)(hk:2000000≤k)(z1 z2 z3 z4:Bool)(r:Int)(l:List Cell)(m t b:List Int)(F:StF r l m t b)(a c o:Int)(ha:0≤a∧a≤10000)(hc:0≤c∧c≤1000)(ho:0≤o∧o≤250):
    go (k+4) impl_State_border [.ptr true [.int .i64 (r),.arr true (z1) (.r3 (l)),.arr true (z2) (.ints .i64 (m)),.arr true (z3) (.ints .i64 (t)),.arr true (z4) (.ints .i64 (b))],.agg [.int .i64 a,.int .i64 c,.int .i64 o]]=
      some [ldD (boS a c o (m,t)).2,.ptr true [.int .i64 (r),.arr true (z1) (.r3 (l)),.arr true (z2) (.ints .i64 ((boS a c o (m,t)).1.1)),.arr true (z3) (.ints .i64 ((boS a c o (m,t)).1.2)),.arr true (z4) (.ints .i64 (b))]]:=by
  rw [qkh]
  have L:=F.len; have ml:=F.ml; have tl:=F.tl
  have f:=F.at (m.length - 1)
  have d:=q28 ⟨f.1,f.2.1⟩ ho
  have ed:Int.tdiv (m.getD (m.length - 1) 0*o) 1000=boX o m:=d.2
  have G:=qbk F ho
  have bx:=qbm F ho; have bY:=qbn F ho; have ip:=qp4 ha hc
  have eR:=qd3 k (by omega) z1 z2 z3 z4 r l m t b (m.length - 1) (boX o m) 0 0 0 0 (by omega) (by omega) (by omega) bx f.2.1 ⟨f.2.2.1,by omega⟩ (by omega) (by omega)
  rw [show q1c (t.getD (m.length - 1) 0) (boX o m) (m.getD (m.length - 1) 0)=boY o m t from rfl] at eR
  unfold boS
  change StF r l (m.set (m.length - 1) (m.getD (m.length - 1) 0 - boX o m)) (t.set (m.length - 1) (t.getD (m.length - 1) 0 - boY o m t)) b∧_ at G
  rw [show bo1 o (m,t)=(m.set (m.length - 1) (m.getD (m.length - 1) 0 - boX o m),t.set (m.length - 1) (t.getD (m.length - 1) 0 - boY o m t)) from rfl] at G ⊢
  generalize m.set (m.length - 1) (m.getD (m.length - 1) 0 - boX o m)=M at*
  generalize t.set (m.length - 1) (t.getD (m.length - 1) 0 - boY o m t)=T at*
  obtain ⟨G,g1,g2⟩:=G
  have Ml:=G.ml; have Tl:=G.tl; have Mf:=G.at 0; have Ms:=G.msum
  have eS:=qd9 (k+2) (by omega) z2 M (by omega) G.mmem
  by_cases h:isum M+a≤10000000
  · rw [if_pos h]
    simp (disch:=omega) only [wk,bit,nI,qhj,ed,eR,qx1,qx2,qx3,qx4,qx5,Int.zero_add,eS,tnz]
    rfl
  · rw [if_neg h]
    simp (disch:=omega) only [wk,bit,nI,qhj,ed,eR,qx1,qx2,qx3,qx4,qx5,Int.zero_add,eS]
theorem qgj (k:Nat)(hk:2000000≤k)(z1 z2 z3 z4:Bool)(r:Int)(l:List Cell)(m t b:List Int)(F:StF r l m t b)(a c o:Int)(ha:0≤a∧a≤10000)(hc:0≤c∧c≤1000)(ho:0≤o∧o≤250):
    go (k+3) spec_l13Apply [.agg [.int .i64 (r),.arr false (z1) (.r3 (l)),.arr false (z2) (.ints .i64 (m)),.arr false (z3) (.ints .i64 (t)),.arr false (z4) (.ints .i64 (b))],.agg [.int .i64 a,.int .i64 c,.int .i64 o]]=
      some [.agg [.int .i64 (r),.arr true (false) (.r3 (l)),.arr true (false) (.ints .i64 ((boS a c o (m,t)).1.1)),.arr true (false) (.ints .i64 ((boS a c o (m,t)).1.2)),.arr true (false) (.ints .i64 (b))],ldD (boS a c o (m,t)).2]:=by
  rw [qoa]
  have L:=F.len; have ml:=F.ml; have tl:=F.tl; have bl:=F.bl; have rr:=F.rr
  have f:=F.at (m.length - 1)
  have d:=q28 ⟨f.1,f.2.1⟩ ho
  have ed:Int.tdiv (m.getD (m.length - 1) 0*o) 1000=boX o m:=d.2
  have G:=qbk F ho
  have bx:=qbm F ho; have bY:=qbn F ho; have ip:=qp4 ha hc
  have ey:q1c (t.getD (m.length - 1) 0) (boX o m) (m.getD (m.length - 1) 0)=boY o m t:=rfl
  unfold boS
  change StF r l (m.set (m.length - 1) (m.getD (m.length - 1) 0 - boX o m)) (t.set (m.length - 1) (t.getD (m.length - 1) 0 - boY o m t)) b∧_ at G
  rw [show bo1 o (m,t)=(m.set (m.length - 1) (m.getD (m.length - 1) 0 - boX o m),t.set (m.length - 1) (t.getD (m.length - 1) 0 - boY o m t)) from rfl] at G ⊢
  simp (disch:=omega) only [wk,bit,nI,qhj,ed,qgu,qga,ey]
  generalize m.set (m.length - 1) (m.getD (m.length - 1) 0 - boX o m)=M at*
  generalize t.set (m.length - 1) (t.getD (m.length - 1) 0 - boY o m t)=T at*
  obtain ⟨G,g1,g2⟩:=G
  have Ml:=G.ml; have Tl:=G.tl; have Mf:=G.at 0; have Ms:=G.msum
  have eS:=qgv (k+1) (by omega) false M (by omega) G.mmem
  by_cases h:isum M+a≤10000000
  · rw [if_pos h]
    simp (disch:=omega) only [wk,bit,nI,eS,tnz]
    rfl
  · rw [if_neg h]
    simp (disch:=omega) only [wk,bit,nI,eS]
theorem quh (k:Nat)(hk:2000000≤k)(fu:List (Nat×Nat))(a0:Int)(a1z:Bool)(a1:List Cell)(a2z:Bool)(a2:List Int)(a3z:Bool)(a3:List Int)(a4z:Bool)(a4:List Int)(z1 z2 z3 z4:Bool)(r:Int)(l:List Cell)(b:List Int): ∀ (N n i:Nat)(s:S2),i+n=16→n<N→StF r l s.1 s.2 b→
    lp (k+6) impl_State_macro [(.ptr true [(.int .i64 (a0)),(.arr true (a1z) (.r3 (a1))),(.arr true (a2z) (.ints .i64 (a2))),(.arr true (a3z) (.ints .i64 (a3))),(.arr true (a4z) (.ints .i64 (a4)))])] fu 1 (N) (qzp (i:Int) z1 l z2 s.1 z3 s.2 z4 b r)=some [.ptr true [.int .i64 (r),.arr true (z1) (.r3 (l)),.arr true (z2) (.ints .i64 ((q3b l b n i s).1)),.arr true (z3) (.ints .i64 ((q3b l b n i s).2)),.arr true (z4) (.ints .i64 (b))]]
  | 0,n,i,s,hi,hN,F=>by omega
  | N+1,0,i,s,hi,hN,F=>by
    rw [qrs]
    have:i=16:=by omega
    subst this
    simp (disch:=omega) only [wk,bit,nI]; rfl
  | N+1,n+1,i,s,hi,hN,F=>by
    rw [qrs]
    have L:=F.len
    have IH:=quh k hk fu a0 a1z a1 a2z a2 a3z a3 a4z a4 z1 z2 z3 z4 r l b N n (i+1) (tick l b i s) (by omega) (by omega) (q2c F i)
    have eA:=qc5 (k+1) (by omega) r z1 l (i:Int) (by omega) (by omega)
    have eM:=qdw k (by omega) z1 z2 z3 z4 false r l s.1 s.2 b (i:Int) F
    unfold q3b
    simp only [tick] at IH
    simp (disch:=omega) only [wk,bit,nI,eA,eM,qx1,qx2,qx3,qx4,qx5,IH]
    rfl
theorem qdu (k:Nat)(hk:2000000≤k)(z1 z2 z3 z4:Bool)(r:Int)(l:List Cell)(m t b:List Int)(F:StF r l m t b):
    go (k+7) impl_State_macro [.ptr true [.int .i64 (r),.arr true (z1) (.r3 (l)),.arr true (z2) (.ints .i64 (m)),.arr true (z3) (.ints .i64 (t)),.arr true (z4) (.ints .i64 (b))]]=some [.ptr true [.int .i64 (r),.arr true (z1) (.r3 (l)),.arr true (z2) (.ints .i64 ((q3b l b 16 0 (m,t)).1)),.arr true (z3) (.ints .i64 ((q3b l b 16 0 (m,t)).2)),.arr true (z4) (.ints .i64 (b))]]:=by
  rw [qko]
  exact quh k hk [] r z1 l z2 m z3 t z4 b z1 z2 z3 z4 r l b (k+6) 16 0 (m,t) rfl (by omega) F
theorem qcg (k:Nat)(x y:Ld)(h1:0≤x.mi+y.mi∧x.mi+y.mi≤1000000000000000000)(h2:0≤x.mo+y.mo∧x.mo+y.mo≤1000000000000000000)(h3:0≤x.ti+y.ti∧x.ti+y.ti≤1000000000000000000)(h4:0≤x.ou+y.ou∧x.ou+y.ou≤1000000000000000000):
    go (k+1) impl_LedgerAdd [ldD x,ldD y]=some [ldD (x.add y)]:=by
  rw [qjr]
  simp (disch:=omega) only [wk,bit,nI]
  rfl
theorem qf3 (k:Nat)(x y:Ld)(h1:0≤x.mi+y.mi∧x.mi+y.mi≤1000000000000000000)(h2:0≤x.mo+y.mo∧x.mo+y.mo≤1000000000000000000)(h3:0≤x.ti+y.ti∧x.ti+y.ti≤1000000000000000000)(h4:0≤x.ou+y.ou∧x.ou+y.ou≤1000000000000000000):
    go (k+1) spec_LedgerAdd [ldD x,ldD y]=some [ldD (x.add y)]:=by
  rw [qnc]
  simp (disch:=omega) only [wk,bit,nI]
  rfl
end Go.Proofs.YtjfjniebmdafeaaGreatDoor
end
section
namespace Go.Proofs.YtjfjniebmdafeaaGreatDoor
open Go.Ev
set_option maxRecDepth 20000
abbrev plD (p:Pl):D:=.agg [.int .i64 p.bi,.int .i64 p.bs,.int .i64 p.bo,.int .i64 p.rain,.int .i64 p.loss,.int .i64 p.dec,.int .i64 p.high,.int .i64 p.low,.int .i64 p.every]
theorem qd1 (k:Nat)(hk:2000000≤k)(z1 z2 z3 z4:Bool)(r:Int)(l:List Cell)(s:S2)(b:List Int)(a:Int)(ha:0≤a∧a≤10000)(F:StF r l s.1 s.2 b):
    go (k+5) impl_State_rain [.ptr true [.int .i64 (r),.arr true (z1) (.r3 (l)),.arr true (z2) (.ints .i64 (s.1)),.arr true (z3) (.ints .i64 (s.2)),.arr true (z4) (.ints .i64 (b))],.int .i64 a]=some [ldD (raS a l s).2,.ptr true [.int .i64 (r),.arr true (z1) (.r3 (l)),.arr true (z2) (.ints .i64 ((raS a l s).1.1)),.arr true (z3) (.ints .i64 ((raS a l s).1.2)),.arr true (z4) (.ints .i64 (b))]]:=by
  have z:=qx0 a l s
  rw [qd0 k hk z1 z2 z3 z4 r l s.1 s.2 b a ha F,qxz]
  simp only [ldD,z.1,z.2.1,z.2.2]
theorem qhd (k:Nat)(hk:2000000≤k)(z1 z2 z3 z4:Bool)(r:Int)(l:List Cell)(s:S2)(b:List Int)(a:Int)(ha:0≤a∧a≤10000)(F:StF r l s.1 s.2 b):
    go (k+4) spec_l14Rain [.agg [.int .i64 (r),.arr false (z1) (.r3 (l)),.arr false (z2) (.ints .i64 (s.1)),.arr false (z3) (.ints .i64 (s.2)),.arr false (z4) (.ints .i64 (b))],.int .i64 a]=some [.agg [.int .i64 (r),.arr true (false) (.r3 (l)),.arr true (false) (.ints .i64 ((raS a l s).1.1)),.arr true (false) (.ints .i64 ((raS a l s).1.2)),.arr true (false) (.ints .i64 (b))],ldD (raS a l s).2]:=by
  have z:=qx0 a l s
  rw [qhc k hk z1 z2 z3 z4 r l s.1 s.2 b a ha F,qxz]
  simp only [ldD,z.1,z.2.1,z.2.2]
theorem q3e {a b:Int}(ha:0≤a):Int.tmod a b=a % b:=Int.tmod_eq_emod_of_nonneg ha
set_option maxHeartbeats 1000000 in
theorem qd4 (k:Nat)(hk:2000000≤k)(r:Int)(s:S3)(b:List Int)(F:StF r s.1 s.2.1 s.2.2 b)(p:Pl)(P:PlF p)(c:Int)(hc:0≤c∧c≤10000000):
    go (k+11) impl_State_runMacro [.ptr true [.int .i64 (r),.arr true (false) (.r3 (s.1)),.arr true (false) (.ints .i64 (s.2.1)),.arr true (false) (.ints .i64 (s.2.2)),.arr true (false) (.ints .i64 (b))],plD p,.int .i64 c]=some [ldD (mac p b c s).2,.ptr true [.int .i64 (r),.arr true (false) (.r3 ((mac p b c s).1.1)),.arr true (false) (.ints .i64 ((mac p b c s).1.2.1)),.arr true (false) (.ints .i64 ((mac p b c s).1.2.2)),.arr true (false) (.ints .i64 (b))]]:=by
  rw [qkv]
  obtain ⟨l,s⟩:=s
  change StF r l s.1 s.2 b at F
  have h1:=qbl F P.bi P.bs P.bo
  have e1:=qc8 (k+6) (by omega) false false false false r l s.1 s.2 b F p.bi p.bs p.bo P.bi P.bs P.bo
  obtain ⟨s1,q1⟩: ∃ x,x=boS p.bi p.bs p.bo s:=⟨_,rfl⟩
  change StF r l (boS p.bi p.bs p.bo s).1.1 (boS p.bi p.bs p.bo s).1.2 b∧Led s (boS p.bi p.bs p.bo s).1 (boS p.bi p.bs p.bo s).2 at h1
  change _=some [ldD (boS p.bi p.bs p.bo s).2,.ptr true [.int .i64 (r),.arr true (false) (.r3 (l)),.arr true (false) (.ints .i64 ((boS p.bi p.bs p.bo s).1.1)),.arr true (false) (.ints .i64 ((boS p.bi p.bs p.bo s).1.2)),.arr true (false) (.ints .i64 (b))]] at e1
  rw [← q1] at h1 e1
  have h2:=qxy h1.1 P.rain
  have e2:=qd1 (k+5) (by omega) false false false false r l s1.1 b p.rain P.rain h1.1
  obtain ⟨s2,q2⟩: ∃ x,x=raS p.rain l s1.1:=⟨_,rfl⟩
  change StF r l (raS p.rain l s1.1).1.1 (raS p.rain l s1.1).1.2 b∧Led s1.1 (raS p.rain l s1.1).1 (raS p.rain l s1.1).2 at h2
  rw [← q2] at h2 e2
  have h3:=q1l h2.1 P.loss
  have e3:=qd7 (k+5) (by omega) false false false false r l s2.1.1 s2.1.2 b p.loss P.loss h2.1
  obtain ⟨s3,q3⟩: ∃ x,x=soS p.loss l s2.1:=⟨_,rfl⟩
  change StF r l (soS p.loss l s2.1).1.1 (soS p.loss l s2.1).1.2 b∧Led s2.1 (soS p.loss l s2.1).1 (soS p.loss l s2.1).2 at h3
  change _=some [ldD (soS p.loss l s2.1).2,.ptr true [.int .i64 (r),.arr true (false) (.r3 (l)),.arr true (false) (.ints .i64 ((soS p.loss l s2.1).1.1)),.arr true (false) (.ints .i64 ((soS p.loss l s2.1).1.2)),.arr true (false) (.ints .i64 (b))]] at e3
  rw [← q3] at h3 e3
  have h4:=qio h3.1 P.dec
  have e4:=qde (k+9) (by omega) false false false false r l s3.1.1 s3.1.2 b p.dec P.dec h3.1
  obtain ⟨s4,q4⟩: ∃ x,x=deS p.dec l s3.1:=⟨_,rfl⟩
  change StF r l (deS p.dec l s3.1).1.1 (deS p.dec l s3.1).1.2 b∧Led s3.1 (deS p.dec l s3.1).1 (deS p.dec l s3.1).2 at h4
  change _=some [ldD (deS p.dec l s3.1).2,.ptr true [.int .i64 (r),.arr true (false) (.r3 (l)),.arr true (false) (.ints .i64 ((deS p.dec l s3.1).1.1)),.arr true (false) (.ints .i64 ((deS p.dec l s3.1).1.2)),.arr true (false) (.ints .i64 (b))]] at e4
  rw [← q4] at h4 e4
  have e5:=qdu (k+3) (by omega) false false false false r l s4.1.1 s4.1.2 b h4.1
  have F5:=(q3c 16 0 s4.1 h4.1).1
  have l1:=h1.2; have l2:=h2.2; have l3:=h3.2; have l4:=h4.2
  have a1:=l1.mi; have a2:=l2.mi; have a3:=l3.mi; have a4:=l4.mi
  have b1:=l1.mo; have b2:=l2.mo; have b3:=l3.mo; have b4:=l4.mo
  have c1:=l1.ti; have c2:=l2.ti; have c3:=l3.ti; have c4:=l4.ti
  have d1:=l1.ou; have d2:=l2.ou; have d3:=l3.ou; have d4:=l4.ou
  have g1:=qcg (k+9) s1.2 s2.2 (by omega) (by omega) (by omega) (by omega)
  have g2:=qcg (k+9) (s1.2.add s2.2) s3.2 (by simp only [Ld.add]; omega) (by simp only [Ld.add]; omega) (by simp only [Ld.add]; omega) (by simp only [Ld.add]; omega)
  have g3:=qcg (k+9) ((s1.2.add s2.2).add s3.2) s4.2 (by simp only [Ld.add]; omega) (by simp only [Ld.add]; omega) (by simp only [Ld.add]; omega) (by simp only [Ld.add]; omega)
  have eq:mac p b c (l,s)=(if 0<p.every∧(c+1) % p.every=0 then ada p.high p.low b (l,q3b l b 16 0 s4.1) else (l,q3b l b 16 0 s4.1),((s1.2.add s2.2).add s3.2).add s4.2):=by
    subst q4; subst q3; subst q2; subst q1; rfl
  have eA:=qc6 k (by omega) r l (q3b l b 16 0 s4.1).1 (q3b l b 16 0 s4.1).2 b F5 p.high p.low
  have tm:Int.tmod (c+1) p.every=(c+1) % p.every:=q3e (by omega)
  rw [eq]
  simp (disch:=omega) only [wk,bit,nI,e1,e2,e3,e4,e5,g1,g2,g3,qx1,qx2,qx3,qx4,qx5,tm]
  by_cases w:0<p.every
  · by_cases w2:(c+1) % p.every=0
    · rw [if_pos ⟨w,w2⟩]
      simp (disch:=omega) only [wk,bit,nI,eA,w2,qx1,qx2,qx3,qx4,qx5]
      rfl
    · rw [if_neg (fun h=>w2 h.2)]
      simp (disch:=omega) only [wk,bit,nI]
  · rw [if_neg (fun h=>w h.1)]
    simp (disch:=omega) only [wk,bit,nI]
set_option maxHeartbeats 1000000 in
theorem qvc (k:Nat)(hk:2000000≤k)(fu:List (Nat×Nat))(r:Int)(l:List Cell)(b:List Int)(p:Pl)(P:PlF p)(c:Int)(hc:0≤c∧c≤10000000)(L:Ld)(y1 y2 y3 y4:Bool)(q1:List Cell)(q2 q3 q4:List Int)(p0 p1 p2 p3 p4:Int): ∀ (N n i:Nat)(s:S2),i+n=16→n<N→StF r l s.1 s.2 b→
    lp (k+7) spec_l18Macro [] fu 8 (N) (q03 c (i:Int) p.bi p.bs p.bo p.rain p.loss p.dec p.high p.low p.every y1 q1 y2 q2 y3 q3 y4 q4 p0 p1 p2 p3 p4 false l false s.1 false s.2 false b r L.mi L.mo L.ti L.ou)=
      some [.agg [.int .i64 (r),.arr true (false) (.r3 ((if 0<p.every∧(c+1) % p.every=0 then ada p.high p.low b (l,q3b l b n i s) else (l,q3b l b n i s)).1)),.arr true (false) (.ints .i64 ((if 0<p.every∧(c+1) % p.every=0 then ada p.high p.low b (l,q3b l b n i s) else (l,q3b l b n i s)).2.1)),.arr true (false) (.ints .i64 ((if 0<p.every∧(c+1) % p.every=0 then ada p.high p.low b (l,q3b l b n i s) else (l,q3b l b n i s)).2.2)),.arr true (false) (.ints .i64 (b))],ldD L]
  | 0,n,i,s,hi,hN,F=>by omega
  | N+1,0,i,s,hi,hN,F=>by
    rw [qs6]
    have:i=16:=by omega
    subst this
    have LL:=F.len
    have tm:Int.tmod (c+1) p.every=(c+1) % p.every:=q3e (by omega)
    have eA:=qg5 k (by omega) r l s.1 s.2 b F p.high p.low
    rw [show q3b l b 0 16 s=s from rfl]
    simp (disch:=omega) only [wk,bit,nI,tm]
    by_cases w:0<p.every
    · by_cases w2:(c+1) % p.every=0
      · rw [if_pos ⟨w,w2⟩]
        simp (disch:=omega) only [wk,bit,nI,eA,w2]
        rfl
      · rw [if_neg (fun h=>w2 h.2)]
        simp (disch:=omega) only [wk,bit,nI]
    · rw [if_neg (fun h=>w h.1)]
      simp (disch:=omega) only [wk,bit,nI]
  | N+1,n+1,i,s,hi,hN,F=>by
    rw [qs6]
    have LL:=F.len
    have IH:=qvc k hk fu r l b p P c hc L y1 y2 y3 y4 q1 q2 q3 q4 p0 p1 p2 p3 p4 N n (i+1) (tick l b i s) (by omega) (by omega) (q2c F i)
    have eS:=qg2 (k+2) (by omega) r false false false false l s.1 s.2 b F (i:Int)
    rw [show q3b l b (n+1) i s=q3b l b n (i+1) (tick l b i s) from rfl]
    simp only [tick] at IH ⊢
    simp (disch:=omega) only [wk,bit,nI,eS,IH]
set_option maxHeartbeats 1000000 in
theorem qg6 (k:Nat)(hk:2000000≤k)(r:Int)(s:S3)(b:List Int)(F:StF r s.1 s.2.1 s.2.2 b)(p:Pl)(P:PlF p)(c:Int)(hc:0≤c∧c≤10000000):
    go (k+8) spec_l18Macro [.agg [.int .i64 (r),.arr false (false) (.r3 (s.1)),.arr false (false) (.ints .i64 (s.2.1)),.arr false (false) (.ints .i64 (s.2.2)),.arr false (false) (.ints .i64 (b))],plD p,.int .i64 c]=some [.agg [.int .i64 (r),.arr true (false) (.r3 ((mac p b c s).1.1)),.arr true (false) (.ints .i64 ((mac p b c s).1.2.1)),.arr true (false) (.ints .i64 ((mac p b c s).1.2.2)),.arr true (false) (.ints .i64 (b))],ldD (mac p b c s).2]:=by
  rw [qoi]
  obtain ⟨l,s⟩:=s
  change StF r l s.1 s.2 b at F
  have h1:=qbl F P.bi P.bs P.bo
  have e1:=qgj (k+4) (by omega) false false false false r l s.1 s.2 b F p.bi p.bs p.bo P.bi P.bs P.bo
  obtain ⟨s1,q1⟩: ∃ x,x=boS p.bi p.bs p.bo s:=⟨_,rfl⟩
  change StF r l (boS p.bi p.bs p.bo s).1.1 (boS p.bi p.bs p.bo s).1.2 b∧Led s (boS p.bi p.bs p.bo s).1 (boS p.bi p.bs p.bo s).2 at h1
  change _=some [.agg [.int .i64 (r),.arr true (false) (.r3 (l)),.arr true (false) (.ints .i64 ((boS p.bi p.bs p.bo s).1.1)),.arr true (false) (.ints .i64 ((boS p.bi p.bs p.bo s).1.2)),.arr true (false) (.ints .i64 (b))],ldD (boS p.bi p.bs p.bo s).2] at e1
  rw [← q1] at h1 e1
  have h2:=qxy h1.1 P.rain
  have e2:=qhd (k+3) (by omega) false false false false r l s1.1 b p.rain P.rain h1.1
  obtain ⟨s2,q2⟩: ∃ x,x=raS p.rain l s1.1:=⟨_,rfl⟩
  change StF r l (raS p.rain l s1.1).1.1 (raS p.rain l s1.1).1.2 b∧Led s1.1 (raS p.rain l s1.1).1 (raS p.rain l s1.1).2 at h2
  rw [← q2] at h2 e2
  have h3:=q1l h2.1 P.loss
  have e3:=qhe (k+3) (by omega) false false false false r l s2.1.1 s2.1.2 b p.loss P.loss h2.1
  obtain ⟨s3,q3⟩: ∃ x,x=soS p.loss l s2.1:=⟨_,rfl⟩
  change StF r l (soS p.loss l s2.1).1.1 (soS p.loss l s2.1).1.2 b∧Led s2.1 (soS p.loss l s2.1).1 (soS p.loss l s2.1).2 at h3
  change _=some [.agg [.int .i64 (r),.arr true (false) (.r3 (l)),.arr true (false) (.ints .i64 ((soS p.loss l s2.1).1.1)),.arr true (false) (.ints .i64 ((soS p.loss l s2.1).1.2)),.arr true (false) (.ints .i64 (b))],ldD (soS p.loss l s2.1).2] at e3
  rw [← q3] at h3 e3
  have h4:=qio h3.1 P.dec
  have e4:=qgk (k+4) (by omega) false false false false r l s3.1.1 s3.1.2 b p.dec P.dec h3.1
  obtain ⟨s4,q4⟩: ∃ x,x=deS p.dec l s3.1:=⟨_,rfl⟩
  change StF r l (deS p.dec l s3.1).1.1 (deS p.dec l s3.1).1.2 b∧Led s3.1 (deS p.dec l s3.1).1 (deS p.dec l s3.1).2 at h4
  change _=some [.agg [.int .i64 (r),.arr true (false) (.r3 (l)),.arr true (false) (.ints .i64 ((deS p.dec l s3.1).1.1)),.arr true (false) (.ints .i64 ((deS p.dec l s3.1).1.2)),.arr true (false) (.ints .i64 (b))],ldD (deS p.dec l s3.1).2] at e4
  rw [← q4] at h4 e4
  have l1:=h1.2; have l2:=h2.2; have l3:=h3.2; have l4:=h4.2
  have a1:=l1.mi; have a2:=l2.mi; have a3:=l3.mi; have a4:=l4.mi
  have b1:=l1.mo; have b2:=l2.mo; have b3:=l3.mo; have b4:=l4.mo
  have c1:=l1.ti; have c2:=l2.ti; have c3:=l3.ti; have c4:=l4.ti
  have d1:=l1.ou; have d2:=l2.ou; have d3:=l3.ou; have d4:=l4.ou
  have g1:=qf3 (k+6) s1.2 s2.2 (by omega) (by omega) (by omega) (by omega)
  have g2:=qf3 (k+6) s3.2 s4.2 (by omega) (by omega) (by omega) (by omega)
  have g3:=qf3 (k+6) (s1.2.add s2.2) (s3.2.add s4.2) (by simp only [Ld.add]; omega) (by simp only [Ld.add]; omega) (by simp only [Ld.add]; omega) (by simp only [Ld.add]; omega)
  have ll:(s1.2.add s2.2).add (s3.2.add s4.2)=((s1.2.add s2.2).add s3.2).add s4.2:=by simp only [Ld.add,Int.add_assoc]
  have eq:mac p b c (l,s)=(if 0<p.every∧(c+1) % p.every=0 then ada p.high p.low b (l,q3b l b 16 0 s4.1) else (l,q3b l b 16 0 s4.1),(s1.2.add s2.2).add (s3.2.add s4.2)):=by
    rw [ll]; subst q4; subst q3; subst q2; subst q1; rfl
  have eM:=qvc k hk [] r l b p P c hc ((s1.2.add s2.2).add (s3.2.add s4.2)) true true true true [] [] [] [] 0 0 0 0 0 (k+7) 16 0 s4.1 rfl (by omega) h4.1
  rw [show ((0:Nat):Int)=0 from rfl] at eM
  rw [eq]
  simp (disch:=omega) only [wk,bit,nI,e1,e2,e3,e4,g1,g2,g3]
  exact eM
end Go.Proofs.YtjfjniebmdafeaaGreatDoor
end
section
namespace Go.Proofs.YtjfjniebmdafeaaGreatDoor
open Go.Ev
theorem qnp (k:Nat)(a0:Int)(a1z:Bool)(a1:L3)(a2z:Bool)(a2:LI)(a3z:Bool)(a3:LI)(a4z:Bool)(a4:LI)(a5 a6 a7 a8 a9 a10 a11 a12 a13 a14 a15 a16 a17 a18 a19 a20:Int):go (k+1) spec_WorldOk [wV false a0 a1z a1 a2z a2 a3z a3 a4z a4 a5 a6 a7 a8 a9 a10 a11 a12 a13 a14 a15 a16 a17 a18 a19 a20]=
 (go k spec_StateOk [sV false a0 a1z a1 a2z a2 a3z a3 a4z a4]).bind fun r0=>
 cond (!bit (nth r0 0))
 (some [.bool false])
 ((go k spec_PlanOk [.agg [.int .i64 a5,.int .i64 a6,.int .i64 a7,.int .i64 a8,.int .i64 a9,.int .i64 a10,.int .i64 a11,.int .i64 a12,.int .i64 a13]]).bind fun r1=>
 cond (!bit (nth r1 0))
 (some [.bool false])
 ((go k spec_l01In [.int .i64 a14,.int .i64 0,.int .i64 100000]).bind fun r2=>
 cond (!bit (nth r2 0))
 (some [.bool false])
 ((go k spec_l36Amount [.int .i64 a15]).bind fun r3=>
 cond (!bit (nth r3 0))
 (some [.bool false])
 ((go k spec_l36Amount [.int .i64 a16]).bind fun r4=>
 cond (!bit (nth r4 0))
 (some [.bool false])
 ((go k spec_l36Amount [.int .i64 a17]).bind fun r5=>
 cond (!bit (nth r5 0))
 (some [.bool false])
 ((go k spec_l36Amount [.int .i64 a18]).bind fun r6=>
 cond (!bit (nth r6 0))
 (some [.bool false])
 ((go k spec_l07Sum [.arr false a2z (.ints .i64 a2)]).bind fun r7=>
 cond (decide (IntKind.wrap .i64 (IntKind.wrap .i64 (D.toInt (nth r7 0) - a15)+a16)=a19))
 ((go k spec_l07Sum [.arr false a3z (.ints .i64 a3)]).bind fun r8=>
 some [.bool (decide (IntKind.wrap .i64 (IntKind.wrap .i64 (D.toInt (nth r8 0) - a17)+a18)=a20))])
 (some [.bool false])))))))):=by kernel_rfl
theorem qk3 (k:Nat)(a0:Int)(a1z:Bool)(a1:L3)(a2z:Bool)(a2:LI)(a3z:Bool)(a3:LI)(a4z:Bool)(a4:LI)(a5 a6 a7 a8 a9 a10 a11 a12 a13 a14 a15 a16 a17 a18 a19 a20:Int):go (k+1) impl_WorldOk [wV false a0 a1z a1 a2z a2 a3z a3 a4z a4 a5 a6 a7 a8 a9 a10 a11 a12 a13 a14 a15 a16 a17 a18 a19 a20]=
 (go k impl_StateOk [sV false a0 a1z a1 a2z a2 a3z a3 a4z a4]).bind fun r0=>
 cond (bit (nth r0 0))
 ((go k impl_PlanOk [.agg [.int .i64 a5,.int .i64 a6,.int .i64 a7,.int .i64 a8,.int .i64 a9,.int .i64 a10,.int .i64 a11,.int .i64 a12,.int .i64 a13]]).bind fun r1=>
 cond (bit (nth r1 0))
 ((go k impl_within [.int .i64 a14,.int .i64 0,.int .i64 100000]).bind fun r2=>
 cond (bit (nth r2 0))
 ((go k impl_ledgerOk [.agg [.int .i64 a15,.int .i64 a16,.int .i64 a17,.int .i64 a18]]).bind fun r3=>
 cond (bit (nth r3 0))
 ((go k impl_sum [.arr false a2z (.ints .i64 a2)]).bind fun r4=>
 cond (decide (a19=IntKind.wrap .i64 (IntKind.wrap .i64 (D.toInt (nth r4 0) - a15)+a16)))
 ((go k impl_sum [.arr false a3z (.ints .i64 a3)]).bind fun r5=>
 some [.bool (decide (a20=IntKind.wrap .i64 (IntKind.wrap .i64 (D.toInt (nth r5 0) - a17)+a18)))])
 (some [.bool false]))
 (some [.bool false]))
 (some [.bool false]))
 (some [.bool false]))
 (some [.bool false]):=by kernel_rfl

end Go.Proofs.YtjfjniebmdafeaaGreatDoor
end
section
namespace Go.Proofs.YtjfjniebmdafeaaGreatDoor
open Go.Ev
theorem qmv (k:Nat)(a0 a1 a2:Int):go (k+1) spec_BorderOk [.agg [.int .i64 a0,.int .i64 a1,.int .i64 a2]]=
 (go k spec_l01In [.int .i64 a0,.int .i64 0,.int .i64 10000]).bind fun r0=>
 cond (bit (nth r0 0))
 ((go k spec_l01In [.int .i64 a1,.int .i64 0,.int .i64 1000]).bind fun r1=>
 cond (bit (nth r1 0))
 ((go k spec_l01In [.int .i64 a2,.int .i64 0,.int .i64 250]).bind fun r2=>
 some [.bool (bit (nth r2 0))])
 (some [.bool false]))
 (some [.bool false]):=by kernel_rfl
theorem qja (k:Nat)(a0 a1 a2:Int):go (k+1) impl_BorderOk [.agg [.int .i64 a0,.int .i64 a1,.int .i64 a2]]=
 (go k impl_within [.int .i64 a0,.int .i64 0,.int .i64 10000]).bind fun r0=>
 cond (bit (nth r0 0))
 ((go k impl_within [.int .i64 a1,.int .i64 0,.int .i64 1000]).bind fun r1=>
 cond (bit (nth r1 0))
 ((go k impl_within [.int .i64 a2,.int .i64 0,.int .i64 250]).bind fun r2=>
 some [.bool (bit (nth r2 0))])
 (some [.bool false]))
 (some [.bool false]):=by kernel_rfl
theorem qlh (k:Nat)(a:Int):go (k+1) impl_isRain [.int .i64 a]=
 (go k impl_within [.int .i64 a,.int .i64 0,.int .i64 10000]).bind fun r0=>
 some [.bool (bit (nth r0 0))]:=by kernel_rfl
theorem qli (k:Nat)(a:Int):go (k+1) impl_isRate [.int .i64 a]=
 (go k impl_within [.int .i64 a,.int .i64 0,.int .i64 1000]).bind fun r0=>
 some [.bool (bit (nth r0 0))]:=by kernel_rfl
theorem qng (k:Nat)(a0 a1 a2 a3 a4 a5 a6 a7 a8:Int):go (k+1) spec_PlanOk [.agg [.int .i64 a0,.int .i64 a1,.int .i64 a2,.int .i64 a3,.int .i64 a4,.int .i64 a5,.int .i64 a6,.int .i64 a7,.int .i64 a8]]=
 (go k spec_BorderOk [.agg [.int .i64 a0,.int .i64 a1,.int .i64 a2]]).bind fun r0=>
 cond (bit (nth r0 0))
 ((go k spec_l01In [.int .i64 a3,.int .i64 0,.int .i64 10000]).bind fun r1=>
 cond (bit (nth r1 0))
 ((go k spec_l01In [.int .i64 a4,.int .i64 0,.int .i64 10000]).bind fun r2=>
 cond (bit (nth r2 0))
 ((go k spec_l01In [.int .i64 a5,.int .i64 0,.int .i64 1000]).bind fun r3=>
 cond (bit (nth r3 0))
 ((go k spec_l01In [.int .i64 a6,.int .i64 0,.int .i64 1000000]).bind fun r4=>
 cond (bit (nth r4 0))
 ((go k spec_l01In [.int .i64 a7,.int .i64 0,.int .i64 1000000]).bind fun r5=>
 cond (bit (nth r5 0))
 ((go k spec_l01In [.int .i64 a8,.int .i64 0,.int .i64 100]).bind fun r6=>
 some [.bool (bit (nth r6 0))])
 (some [.bool false]))
 (some [.bool false]))
 (some [.bool false]))
 (some [.bool false]))
 (some [.bool false]))
 (some [.bool false]):=by kernel_rfl
theorem qj5 (k:Nat)(a0 a1 a2 a3 a4 a5 a6 a7 a8:Int):go (k+1) impl_PlanOk [.agg [.int .i64 a0,.int .i64 a1,.int .i64 a2,.int .i64 a3,.int .i64 a4,.int .i64 a5,.int .i64 a6,.int .i64 a7,.int .i64 a8]]=
 (go k impl_BorderOk [.agg [.int .i64 a0,.int .i64 a1,.int .i64 a2]]).bind fun r0=>
 cond (bit (nth r0 0))
 ((go k impl_isRain [.int .i64 a3]).bind fun r1=>
 cond (bit (nth r1 0))
 ((go k impl_isRain [.int .i64 a4]).bind fun r2=>
 cond (bit (nth r2 0))
 ((go k impl_isRate [.int .i64 a5]).bind fun r3=>
 cond (bit (nth r3 0))
 ((go k impl_within [.int .i64 a6,.int .i64 0,.int .i64 1000000]).bind fun r4=>
 cond (bit (nth r4 0))
 ((go k impl_within [.int .i64 a7,.int .i64 0,.int .i64 1000000]).bind fun r5=>
 cond (bit (nth r5 0))
 ((go k impl_within [.int .i64 a8,.int .i64 0,.int .i64 100]).bind fun r6=>
 some [.bool (bit (nth r6 0))])
 (some [.bool false]))
 (some [.bool false]))
 (some [.bool false]))
 (some [.bool false]))
 (some [.bool false]))
 (some [.bool false]):=by kernel_rfl
theorem qok (k:Nat)(a:Int):go (k+1) spec_l36Amount [.int .i64 a]=
 (go k spec_l01In [.int .i64 a,.int .i64 0,.int .i64 1000000000000000]).bind fun r0=>
 some [.bool (bit (nth r0 0))]:=by kernel_rfl
theorem qlk (k:Nat)(a0 a1 a2 a3:Int):go (k+1) impl_ledgerOk [.agg [.int .i64 a0,.int .i64 a1,.int .i64 a2,.int .i64 a3]]=
 (go k impl_within [.int .i64 a0,.int .i64 0,.int .i64 1000000000000000]).bind fun r0=>
 cond (bit (nth r0 0))
 ((go k impl_within [.int .i64 a1,.int .i64 0,.int .i64 1000000000000000]).bind fun r1=>
 cond (bit (nth r1 0))
 ((go k impl_within [.int .i64 a2,.int .i64 0,.int .i64 1000000000000000]).bind fun r2=>
 cond (bit (nth r2 0))
 ((go k impl_within [.int .i64 a3,.int .i64 0,.int .i64 1000000000000000]).bind fun r3=>
 some [.bool (bit (nth r3 0))])
 (some [.bool false]))
 (some [.bool false]))
 (some [.bool false]):=by kernel_rfl
end Go.Proofs.YtjfjniebmdafeaaGreatDoor
end
section
namespace Go.Proofs.YtjfjniebmdafeaaGreatDoor
open Go.Ev
def qbq (a b c:Int):Bool:=inR a 0 10000&&(inR b 0 1000&&inR c 0 250)
theorem qfk (k:Nat)(hk:2000000≤k)(a0:Int)(a1:Int)(a2:Int):go (k+2) spec_BorderOk [(.agg [(.int .i64 (a0)),(.int .i64 (a1)),(.int .i64 (a2))])]=some [.bool (qbq a0 a1 a2)]:=by
  rw [qmv]
  simp (disch:=omega) only [wk,bit,nI,qgl,qim]
  rfl
theorem qby (k:Nat)(hk:2000000≤k)(a0:Int)(a1:Int)(a2:Int):go (k+2) impl_BorderOk [(.agg [(.int .i64 (a0)),(.int .i64 (a1)),(.int .i64 (a2))])]=some [.bool (qbq a0 a1 a2)]:=by
  rw [qja]
  simp (disch:=omega) only [wk,bit,nI,qed,qim]
  rfl
theorem qdq (k:Nat)(hk:2000000≤k)(a:Int):go (k+2) impl_isRain [(.int .i64 (a))]=some [.bool (inR a 0 10000)]:=by
  rw [qlh]
  simp (disch:=omega) only [wk,bit,nI,qed]
theorem qdr (k:Nat)(hk:2000000≤k)(a:Int):go (k+2) impl_isRate [(.int .i64 (a))]=some [.bool (inR a 0 1000)]:=by
  rw [qli]
  simp (disch:=omega) only [wk,bit,nI,qed]
def qxn (a0 a1 a2 a3 a4 a5 a6 a7 a8:Int):Bool:=qbq a0 a1 a2&&(inR a3 0 10000&&(inR a4 0 10000&&(inR a5 0 1000&&(inR a6 0 1000000&&(inR a7 0 1000000&&inR a8 0 100)))))
theorem qf7 (k:Nat)(hk:2000000≤k)(a0:Int)(a1:Int)(a2:Int)(a3:Int)(a4:Int)(a5:Int)(a6:Int)(a7:Int)(a8:Int):go (k+3) spec_PlanOk [(.agg [(.int .i64 (a0)),(.int .i64 (a1)),(.int .i64 (a2)),(.int .i64 (a3)),(.int .i64 (a4)),(.int .i64 (a5)),(.int .i64 (a6)),(.int .i64 (a7)),(.int .i64 (a8))])]=some [.bool (qxn a0 a1 a2 a3 a4 a5 a6 a7 a8)]:=by
  rw [qng]
  simp (disch:=omega) only [wk,bit,nI,qgl,qfk,qim]
  rfl
theorem qcn (k:Nat)(hk:2000000≤k)(a0:Int)(a1:Int)(a2:Int)(a3:Int)(a4:Int)(a5:Int)(a6:Int)(a7:Int)(a8:Int):go (k+3) impl_PlanOk [(.agg [(.int .i64 (a0)),(.int .i64 (a1)),(.int .i64 (a2)),(.int .i64 (a3)),(.int .i64 (a4)),(.int .i64 (a5)),(.int .i64 (a6)),(.int .i64 (a7)),(.int .i64 (a8))])]=some [.bool (qxn a0 a1 a2 a3 a4 a5 a6 a7 a8)]:=by
  rw [qj5]
  simp (disch:=omega) only [wk,bit,nI,qed,qby,qdq,qdr,qim]
  rfl
end Go.Proofs.YtjfjniebmdafeaaGreatDoor
end
section
namespace Go.Proofs.YtjfjniebmdafeaaGreatDoor
open Go.Ev
theorem qmc (k:Nat)(a0 a1 a2:Int):go (k+1) laws_toBorder [.agg [.int .i64 a0,.int .i64 a1,.int .i64 a2]]=
 some [.agg [.int .i64 a0,.int .i64 a1,.int .i64 a2]]:=by kernel_rfl
theorem qmi (k:Nat)(a0 a1 a2 a3 a4 a5 a6 a7 a8:Int):go (k+1) laws_toPlan [.agg [.int .i64 a0,.int .i64 a1,.int .i64 a2,.int .i64 a3,.int .i64 a4,.int .i64 a5,.int .i64 a6,.int .i64 a7,.int .i64 a8]]=
 (go k laws_toBorder [.agg [.int .i64 a0,.int .i64 a1,.int .i64 a2]]).bind fun r0=>
 some [.agg [.int .i64 (D.toInt (D.cell 0 (nth r0 0))),.int .i64 (D.toInt (D.cell 1 (nth r0 0))),.int .i64 (D.toInt (D.cell 2 (nth r0 0))),.int .i64 a3,.int .i64 a4,.int .i64 a5,.int .i64 a6,.int .i64 a7,.int .i64 a8]]:=by kernel_rfl
theorem qmk (k:Nat)(a0:Int)(a1z:Bool)(a1:L3)(a2z:Bool)(a2:LI)(a3z:Bool)(a3:LI)(a4z:Bool)(a4:LI)(a5 a6 a7 a8 a9 a10 a11 a12 a13 a14 a15 a16 a17 a18 a19 a20:Int):go (k+1) laws_toWorld [wV false a0 a1z a1 a2z a2 a3z a3 a4z a4 a5 a6 a7 a8 a9 a10 a11 a12 a13 a14 a15 a16 a17 a18 a19 a20]=
 (go k laws_toState [sV false a0 a1z a1 a2z a2 a3z a3 a4z a4]).bind fun r0=>
 (go k laws_toPlan [.agg [.int .i64 a5,.int .i64 a6,.int .i64 a7,.int .i64 a8,.int .i64 a9,.int .i64 a10,.int .i64 a11,.int .i64 a12,.int .i64 a13]]).bind fun r1=>
 (go k laws_toLedger [.agg [.int .i64 a15,.int .i64 a16,.int .i64 a17,.int .i64 a18]]).bind fun r2=>
 some [.agg [.int .i64 (D.toInt (D.cell 0 (nth r0 0))),.arr true (D.nil (D.cell 1 (nth r0 0))) (.r3 (D.r3 (D.cell 1 (nth r0 0)))),.arr true (D.nil (D.cell 2 (nth r0 0))) (.ints .i64 (D.ints (D.cell 2 (nth r0 0)))),.arr true (D.nil (D.cell 3 (nth r0 0))) (.ints .i64 (D.ints (D.cell 3 (nth r0 0)))),.arr true (D.nil (D.cell 4 (nth r0 0))) (.ints .i64 (D.ints (D.cell 4 (nth r0 0)))),.int .i64 (D.toInt (D.cell 0 (nth r1 0))),.int .i64 (D.toInt (D.cell 1 (nth r1 0))),.int .i64 (D.toInt (D.cell 2 (nth r1 0))),.int .i64 (D.toInt (D.cell 3 (nth r1 0))),.int .i64 (D.toInt (D.cell 4 (nth r1 0))),.int .i64 (D.toInt (D.cell 5 (nth r1 0))),.int .i64 (D.toInt (D.cell 6 (nth r1 0))),.int .i64 (D.toInt (D.cell 7 (nth r1 0))),.int .i64 (D.toInt (D.cell 8 (nth r1 0))),.int .i64 a14,.int .i64 (D.toInt (D.cell 0 (nth r2 0))),.int .i64 (D.toInt (D.cell 1 (nth r2 0))),.int .i64 (D.toInt (D.cell 2 (nth r2 0))),.int .i64 (D.toInt (D.cell 3 (nth r2 0))),.int .i64 a19,.int .i64 a20]]:=by kernel_rfl
theorem qmb (k:Nat)(a0:Int)(a1z:Bool)(a1:L3)(a2z:Bool)(a2:LI)(a3z:Bool)(a3:LI)(a4z:Bool)(a4:LI)(a5 a6 a7 a8 a9 a10 a11 a12 a13 a14 a15 a16 a17 a18 a19 a20 b:Int):go (k+1) laws_szWorld [wV false a0 a1z a1 a2z a2 a3z a3 a4z a4 a5 a6 a7 a8 a9 a10 a11 a12 a13 a14 a15 a16 a17 a18 a19 a20,.int .i64 b]=
 (go k laws_szState [sV false a0 a1z a1 a2z a2 a3z a3 a4z a4,.int .i64 b]).bind fun r0=>
 cond (decide (D.toInt (nth r0 0)<0))
 (some [.int .i64 ((-1:Int))])
 (some [.int .i64 (D.toInt (nth r0 0))]):=by kernel_rfl
theorem qlp (k:Nat)(a0 a1 a2 b0 b1 b2:Int):go (k+1) laws_eqBorder [.agg [.int .i64 a0,.int .i64 a1,.int .i64 a2],.agg [.int .i64 b0,.int .i64 b1,.int .i64 b2]]=
 cond (!decide (a0=b0))
 (some [.bool false])
 (cond (!decide (a1=b1))
 (some [.bool false])
 (cond (!decide (a2=b2))
 (some [.bool false])
 (some [.bool true]))):=by kernel_rfl
theorem qlv (k:Nat)(a0 a1 a2 a3 a4 a5 a6 a7 a8 b0 b1 b2 b3 b4 b5 b6 b7 b8:Int):go (k+1) laws_eqPlan [.agg [.int .i64 a0,.int .i64 a1,.int .i64 a2,.int .i64 a3,.int .i64 a4,.int .i64 a5,.int .i64 a6,.int .i64 a7,.int .i64 a8],.agg [.int .i64 b0,.int .i64 b1,.int .i64 b2,.int .i64 b3,.int .i64 b4,.int .i64 b5,.int .i64 b6,.int .i64 b7,.int .i64 b8]]=
 (go k laws_eqBorder [.agg [.int .i64 a0,.int .i64 a1,.int .i64 a2],.agg [.int .i64 b0,.int .i64 b1,.int .i64 b2]]).bind fun r0=>
 cond (!bit (nth r0 0))
 (some [.bool false])
 (cond (!decide (a3=b3))
 (some [.bool false])
 (cond (!decide (a4=b4))
 (some [.bool false])
 (cond (!decide (a5=b5))
 (some [.bool false])
 (cond (!decide (a6=b6))
 (some [.bool false])
 (cond (!decide (a7=b7))
 (some [.bool false])
 (cond (!decide (a8=b8))
 (some [.bool false])
 (some [.bool true]))))))):=by kernel_rfl
theorem qlt (k:Nat)(a0 a1 a2 a3 b0 b1 b2 b3:Int):go (k+1) laws_eqLedger [.agg [.int .i64 a0,.int .i64 a1,.int .i64 a2,.int .i64 a3],.agg [.int .i64 b0,.int .i64 b1,.int .i64 b2,.int .i64 b3]]=
 cond (!decide (a0=b0))
 (some [.bool false])
 (cond (!decide (a1=b1))
 (some [.bool false])
 (cond (!decide (a2=b2))
 (some [.bool false])
 (cond (!decide (a3=b3))
 (some [.bool false])
 (some [.bool true])))):=by kernel_rfl
theorem qly (k:Nat)(a0:Int)(a1z:Bool)(a1:L3)(a2z:Bool)(a2:LI)(a3z:Bool)(a3:LI)(a4z:Bool)(a4:LI)(a5 a6 a7 a8 a9 a10 a11 a12 a13 a14 a15 a16 a17 a18 a19 a20 b0:Int)(b1z:Bool)(b1:L3)(b2z:Bool)(b2:LI)(b3z:Bool)(b3:LI)(b4z:Bool)(b4:LI)(b5 b6 b7 b8 b9 b10 b11 b12 b13 b14 b15 b16 b17 b18 b19 b20:Int):go (k+1) laws_eqWorld [wV false a0 a1z a1 a2z a2 a3z a3 a4z a4 a5 a6 a7 a8 a9 a10 a11 a12 a13 a14 a15 a16 a17 a18 a19 a20,wV false b0 b1z b1 b2z b2 b3z b3 b4z b4 b5 b6 b7 b8 b9 b10 b11 b12 b13 b14 b15 b16 b17 b18 b19 b20]=
 (go k laws_eqState [sV false a0 a1z a1 a2z a2 a3z a3 a4z a4,sV false b0 b1z b1 b2z b2 b3z b3 b4z b4]).bind fun r0=>
 cond (!bit (nth r0 0))
 (some [.bool false])
 ((go k laws_eqPlan [.agg [.int .i64 a5,.int .i64 a6,.int .i64 a7,.int .i64 a8,.int .i64 a9,.int .i64 a10,.int .i64 a11,.int .i64 a12,.int .i64 a13],.agg [.int .i64 b5,.int .i64 b6,.int .i64 b7,.int .i64 b8,.int .i64 b9,.int .i64 b10,.int .i64 b11,.int .i64 b12,.int .i64 b13]]).bind fun r1=>
 cond (!bit (nth r1 0))
 (some [.bool false])
 (cond (!decide (a14=b14))
 (some [.bool false])
 ((go k laws_eqLedger [.agg [.int .i64 a15,.int .i64 a16,.int .i64 a17,.int .i64 a18],.agg [.int .i64 b15,.int .i64 b16,.int .i64 b17,.int .i64 b18]]).bind fun r2=>
 cond (!bit (nth r2 0))
 (some [.bool false])
 (cond (!decide (a19=b19))
 (some [.bool false])
 (cond (!decide (a20=b20))
 (some [.bool false])
 (some [.bool true])))))):=by kernel_rfl
theorem ql6 (k:Nat)(a0:Int)(a1z:Bool)(a1:L3)(a2z:Bool)(a2:LI)(a3z:Bool)(a3:LI)(a4z:Bool)(a4:LI)(a5 a6 a7 a8 a9 a10 a11 a12 a13 a14 a15 a16 a17 a18 a19 a20 b:Int):go (k+1) laws_markWorld [wV true a0 a1z a1 a2z a2 a3z a3 a4z a4 a5 a6 a7 a8 a9 a10 a11 a12 a13 a14 a15 a16 a17 a18 a19 a20,.int .i64 b]=
 (go k laws_markState [sV true a0 a1z a1 a2z a2 a3z a3 a4z a4,.int .i64 b]).bind fun r0=>
 some [.int .i64 (D.toInt (nth r0 0)),.agg [.int .i64 a0,.arr true a1z (.r3 (D.r3 (D.cell 1 (nth r0 1)))),.arr true a2z (.ints .i64 (D.ints (D.cell 2 (nth r0 1)))),.arr true a3z (.ints .i64 (D.ints (D.cell 3 (nth r0 1)))),.arr true a4z (.ints .i64 (D.ints (D.cell 4 (nth r0 1)))),.int .i64 a5,.int .i64 a6,.int .i64 a7,.int .i64 a8,.int .i64 a9,.int .i64 a10,.int .i64 a11,.int .i64 a12,.int .i64 a13,.int .i64 a14,.int .i64 a15,.int .i64 a16,.int .i64 a17,.int .i64 a18,.int .i64 a19,.int .i64 a20]]:=by kernel_rfl

end Go.Proofs.YtjfjniebmdafeaaGreatDoor
end
section
namespace Go.Proofs.YtjfjniebmdafeaaGreatDoor
open Go.Ev
theorem qmj (k:Nat)(a0:Int)(a1z:Bool)(a1:L3)(a2z:Bool)(a2:LI)(a3z:Bool)(a3:LI)(a4z:Bool)(a4:LI):go (k+1) laws_toState [sV false a0 a1z a1 a2z a2 a3z a3 a4z a4]=
 (go k laws_toMesh [.agg [.int .i64 a0,.arr false a1z (.r3 a1)]]).bind fun r0=>
 (go k laws_toIntS [.arr false a2z (.ints .i64 a2)]).bind fun r1=>
 (go k laws_toIntS [.arr false a3z (.ints .i64 a3)]).bind fun r2=>
 (go k laws_toIntS [.arr false a4z (.ints .i64 a4)]).bind fun r3=>
 some [.agg [.int .i64 (D.toInt (D.cell 0 (nth r0 0))),.arr true (D.nil (D.cell 1 (nth r0 0))) (.r3 (D.r3 (D.cell 1 (nth r0 0)))),.arr true (D.nil (nth r1 0)) (.ints .i64 (D.ints (nth r1 0))),.arr true (D.nil (nth r2 0)) (.ints .i64 (D.ints (nth r2 0))),.arr true (D.nil (nth r3 0)) (.ints .i64 (D.ints (nth r3 0)))]]:=by kernel_rfl
theorem qma (k:Nat)(a0:Int)(a1z:Bool)(a1:L3)(a2z:Bool)(a2:LI)(a3z:Bool)(a3:LI)(a4z:Bool)(a4:LI)(b:Int):go (k+1) laws_szState [sV false a0 a1z a1 a2z a2 a3z a3 a4z a4,.int .i64 b]=
 (go k laws_szMesh [.agg [.int .i64 a0,.arr false a1z (.r3 a1)],.int .i64 b]).bind fun r0=>
 cond (decide (D.toInt (nth r0 0)<0))
 (some [.int .i64 ((-1:Int))])
 ((go k laws_szIntS [.arr false a2z (.ints .i64 a2),.int .i64 (D.toInt (nth r0 0))]).bind fun r1=>
 cond (decide (D.toInt (nth r1 0)<0))
 (some [.int .i64 ((-1:Int))])
 ((go k laws_szIntS [.arr false a3z (.ints .i64 a3),.int .i64 (D.toInt (nth r1 0))]).bind fun r2=>
 cond (decide (D.toInt (nth r2 0)<0))
 (some [.int .i64 ((-1:Int))])
 ((go k laws_szIntS [.arr false a4z (.ints .i64 a4),.int .i64 (D.toInt (nth r2 0))]).bind fun r3=>
 cond (decide (D.toInt (nth r3 0)<0))
 (some [.int .i64 ((-1:Int))])
 (some [.int .i64 (D.toInt (nth r3 0))])))):=by kernel_rfl
theorem qlw (k:Nat)(a0:Int)(a1z:Bool)(a1:L3)(a2z:Bool)(a2:LI)(a3z:Bool)(a3:LI)(a4z:Bool)(a4:LI)(b0:Int)(b1z:Bool)(b1:L3)(b2z:Bool)(b2:LI)(b3z:Bool)(b3:LI)(b4z:Bool)(b4:LI):go (k+1) laws_eqState [sV false a0 a1z a1 a2z a2 a3z a3 a4z a4,sV false b0 b1z b1 b2z b2 b3z b3 b4z b4]=
 (go k laws_eqMesh [.agg [.int .i64 a0,.arr false a1z (.r3 a1)],.agg [.int .i64 b0,.arr false b1z (.r3 b1)]]).bind fun r0=>
 cond (!bit (nth r0 0))
 (some [.bool false])
 ((go k laws_eqIntS [.arr false a2z (.ints .i64 a2),.arr false b2z (.ints .i64 b2)]).bind fun r1=>
 cond (!bit (nth r1 0))
 (some [.bool false])
 ((go k laws_eqIntS [.arr false a3z (.ints .i64 a3),.arr false b3z (.ints .i64 b3)]).bind fun r2=>
 cond (!bit (nth r2 0))
 (some [.bool false])
 ((go k laws_eqIntS [.arr false a4z (.ints .i64 a4),.arr false b4z (.ints .i64 b4)]).bind fun r3=>
 cond (!bit (nth r3 0))
 (some [.bool false])
 (some [.bool true])))):=by kernel_rfl
theorem ql3 (k:Nat)(a0:Int)(a1z:Bool)(a1:L3)(a2z:Bool)(a2:LI)(a3z:Bool)(a3:LI)(a4z:Bool)(a4:LI)(b:Int):go (k+1) laws_markState [sV true a0 a1z a1 a2z a2 a3z a3 a4z a4,.int .i64 b]=
 (go k laws_markMesh [.agg [.int .i64 a0,.arr true a1z (.r3 a1)],.int .i64 b]).bind fun r0=>
 (go k laws_markIntS [.arr true a2z (.ints .i64 a2),.int .i64 (D.toInt (nth r0 0))]).bind fun r1=>
 (go k laws_markIntS [.arr true a3z (.ints .i64 a3),.int .i64 (D.toInt (nth r1 0))]).bind fun r2=>
 (go k laws_markIntS [.arr true a4z (.ints .i64 a4),.int .i64 (D.toInt (nth r2 0))]).bind fun r3=>
 some [.int .i64 (D.toInt (nth r3 0)),.agg [.int .i64 a0,.arr true a1z (.r3 (D.r3 (D.cell 1 (nth r0 1)))),.arr true a2z (.ints .i64 (D.ints (nth r1 1))),.arr true a3z (.ints .i64 (D.ints (nth r2 1))),.arr true a4z (.ints .i64 (D.ints (nth r3 1)))]]:=by kernel_rfl

end Go.Proofs.YtjfjniebmdafeaaGreatDoor
end
section
namespace Go.Proofs.YtjfjniebmdafeaaGreatDoor
open Go.Ev
theorem qmd (k:Nat)(a0 a1 a2:Int):go (k+1) laws_toId [.agg [.int .i64 a0,.int .i64 a1,.int .i64 a2]]=
 some [.agg [.int .i64 a0,.int .i64 a1,.int .i64 a2]]:=by kernel_rfl
def qz6 (x0:Int)(z1:Bool)(l2:L3)(z3:Bool)(l4:L3):St:=⟨fill 23 [(0,.sl 0 none),(3,.sl 1 none),(4,.int .i64 x0)],[],[.arr false z1 (.r3 l2),.arr true z3 (.r3 l4)]⟩
theorem qme (k:Nat)(az:Bool)(a:L3):go (k+1) laws_toIdS [.arr false az (.r3 a)]=
 cond (decide (0≤nI (List.length a))&&decide (nI (List.length a)≤nI (List.length a))&&decide (nI (List.length a)≤nI bigLen))
 (lp k laws_toIdS [] [] 3 k (qz6 0 az a false (List.replicate (Int.toNat (nI (List.length a))) zz3)))
 none:=by kernel_rfl
theorem qr9 (k n:Nat)(fu:FU)(x0:Int)(z1:Bool)(l2:L3)(z3:Bool)(l4:L3):lp k laws_toIdS [] fu 3 (n+1) (qz6 x0 z1 l2 z3 l4)=
 cond (decide (x0<nI (List.length l2)))
 (cond (decide (0≤x0)&&decide (x0<nI (List.length l2)))
 ((go k laws_toId [.agg [.int .i64 (Prod.fst (List.getD l2 (Int.toNat x0) zz3)),.int .i64 (Prod.fst (Prod.snd (List.getD l2 (Int.toNat x0) zz3))),.int .i64 (Prod.snd (Prod.snd (List.getD l2 (Int.toNat x0) zz3)))]]).bind fun r0=>
 cond (decide (0≤x0)&&decide (x0<nI (List.length l4)))
 (lp k laws_toIdS [] fu 3 n (qz6 (IntKind.wrap .i64 (x0+1)) z1 l2 z3 (List.set l4 (Int.toNat x0) (D.toInt (D.cell 0 (nth r0 0)),D.toInt (D.cell 1 (nth r0 0)),D.toInt (D.cell 2 (nth r0 0))))))
 none)
 none)
 (some [.arr true z3 (.r3 l4)]):=by kernel_rfl
theorem qmh (k:Nat)(a0:Int)(a1z:Bool)(a1:L3):go (k+1) laws_toMesh [.agg [.int .i64 a0,.arr false a1z (.r3 a1)]]=
 (go k laws_toIdS [.arr false a1z (.r3 a1)]).bind fun r0=>
 some [.agg [.int .i64 a0,.arr true (D.nil (nth r0 0)) (.r3 (D.r3 (nth r0 0)))]]:=by kernel_rfl
theorem ql7 (k:Nat)(az:Bool)(a:L3)(b:Int):go (k+1) laws_szIdS [.arr false az (.r3 a),.int .i64 b]=
 cond (decide (IntKind.wrap .i64 (b - nI (List.length a))<0))
 (some [.int .i64 ((-1:Int))])
 (some [.int .i64 (IntKind.wrap .i64 (b - nI (List.length a)))]):=by kernel_rfl
theorem ql9 (k:Nat)(a0:Int)(a1z:Bool)(a1:L3)(b:Int):go (k+1) laws_szMesh [.agg [.int .i64 a0,.arr false a1z (.r3 a1)],.int .i64 b]=
 (go k laws_szIdS [.arr false a1z (.r3 a1),.int .i64 b]).bind fun r0=>
 cond (decide (D.toInt (nth r0 0)<0))
 (some [.int .i64 ((-1:Int))])
 (some [.int .i64 (D.toInt (nth r0 0))]):=by kernel_rfl
theorem qlq (k:Nat)(a0 a1 a2 b0 b1 b2:Int):go (k+1) laws_eqId [.agg [.int .i64 a0,.int .i64 a1,.int .i64 a2],.agg [.int .i64 b0,.int .i64 b1,.int .i64 b2]]=
 cond (!decide (a0=b0))
 (some [.bool false])
 (cond (!decide (a1=b1))
 (some [.bool false])
 (cond (!decide (a2=b2))
 (some [.bool false])
 (some [.bool true]))):=by kernel_rfl
def qzy (x0:Int)(z1:Bool)(l2:L3)(z3:Bool)(l4:L3):St:=⟨fill 27 [(0,.sl 0 none),(1,.sl 1 none),(5,.int .i64 x0)],[],[.arr false z1 (.r3 l2),.arr false z3 (.r3 l4)]⟩
theorem qlr (k:Nat)(az:Bool)(a:L3)(bz:Bool)(b:L3):go (k+1) laws_eqIdS [.arr false az (.r3 a),.arr false bz (.r3 b)]=
 cond (!decide (nI (List.length a)=nI (List.length b)))
 (some [.bool false])
 (lp k laws_eqIdS [] [] 4 k (qzy 0 az a bz b)):=by kernel_rfl
theorem qr1 (k n:Nat)(fu:FU)(x0:Int)(z1:Bool)(l2:L3)(z3:Bool)(l4:L3):lp k laws_eqIdS [] fu 4 (n+1) (qzy x0 z1 l2 z3 l4)=
 cond (decide (x0<nI (List.length l2)))
 (cond (decide (0≤x0)&&decide (x0<nI (List.length l2)))
 (cond (decide (0≤x0)&&decide (x0<nI (List.length l4)))
 ((go k laws_eqId [.agg [.int .i64 (Prod.fst (List.getD l2 (Int.toNat x0) zz3)),.int .i64 (Prod.fst (Prod.snd (List.getD l2 (Int.toNat x0) zz3))),.int .i64 (Prod.snd (Prod.snd (List.getD l2 (Int.toNat x0) zz3)))],.agg [.int .i64 (Prod.fst (List.getD l4 (Int.toNat x0) zz3)),.int .i64 (Prod.fst (Prod.snd (List.getD l4 (Int.toNat x0) zz3))),.int .i64 (Prod.snd (Prod.snd (List.getD l4 (Int.toNat x0) zz3)))]]).bind fun r0=>
 cond (!bit (nth r0 0))
 (some [.bool false])
 (lp k laws_eqIdS [] fu 4 n (qzy (IntKind.wrap .i64 (x0+1)) z1 l2 z3 l4)))
 none)
 none)
 (some [.bool true]):=by kernel_rfl
theorem qlu (k:Nat)(a0:Int)(a1z:Bool)(a1:L3)(b0:Int)(b1z:Bool)(b1:L3):go (k+1) laws_eqMesh [.agg [.int .i64 a0,.arr false a1z (.r3 a1)],.agg [.int .i64 b0,.arr false b1z (.r3 b1)]]=
 cond (!decide (a0=b0))
 (some [.bool false])
 ((go k laws_eqIdS [.arr false a1z (.r3 a1),.arr false b1z (.r3 b1)]).bind fun r0=>
 cond (!bit (nth r0 0))
 (some [.bool false])
 (some [.bool true])):=by kernel_rfl
def qz2 (x0 x1:Int)(z2:Bool)(l3:L3):St:=⟨fill 34 [(0,.sl 0 none),(1,.int .i64 x0),(5,.int .i64 x1)],[.sl 0 none],[.arr true z2 (.r3 l3)]⟩
theorem ql0 (k:Nat)(az:Bool)(a:L3)(b:Int):go (k+1) laws_markIdS [.arr true az (.r3 a),.int .i64 b]=
 lp k laws_markIdS [.arr true az (.r3 a)] [] 2 k (qz2 b 0 az a):=by kernel_rfl
theorem qr5 (k n:Nat)(fu:FU)(az:Bool)(a:L3)(x0 x1:Int)(z2:Bool)(l3:L3):lp k laws_markIdS [.arr true az (.r3 a)] fu 2 (n+1) (qz2 x0 x1 z2 l3)=
 cond (decide (x1<nI (List.length l3)))
 (cond (decide (0≤x1)&&decide (x1<nI (List.length l3)))
 (cond (decide (0≤x1)&&decide (x1<nI (List.length (List.set l3 (Int.toNat x1) (x0,Prod.fst (Prod.snd (List.getD l3 (Int.toNat x1) zz3)),Prod.snd (Prod.snd (List.getD l3 (Int.toNat x1) zz3)))))))
 (cond (decide (0≤x1)&&decide (x1<nI (List.length (List.set (List.set l3 (Int.toNat x1) (x0,Prod.fst (Prod.snd (List.getD l3 (Int.toNat x1) zz3)),Prod.snd (Prod.snd (List.getD l3 (Int.toNat x1) zz3)))) (Int.toNat x1) (Prod.fst (List.getD (List.set l3 (Int.toNat x1) (x0,Prod.fst (Prod.snd (List.getD l3 (Int.toNat x1) zz3)),Prod.snd (Prod.snd (List.getD l3 (Int.toNat x1) zz3)))) (Int.toNat x1) zz3),IntKind.wrap .i64 (x0+1),Prod.snd (Prod.snd (List.getD (List.set l3 (Int.toNat x1) (x0,Prod.fst (Prod.snd (List.getD l3 (Int.toNat x1) zz3)),Prod.snd (Prod.snd (List.getD l3 (Int.toNat x1) zz3)))) (Int.toNat x1) zz3)))))))
 (lp k laws_markIdS [.arr true az (.r3 a)] fu 2 n (qz2 (IntKind.wrap .i64 (IntKind.wrap .i64 (IntKind.wrap .i64 (x0+1)+1)+1)) (IntKind.wrap .i64 (x1+1)) z2 (List.set (List.set (List.set l3 (Int.toNat x1) (x0,Prod.fst (Prod.snd (List.getD l3 (Int.toNat x1) zz3)),Prod.snd (Prod.snd (List.getD l3 (Int.toNat x1) zz3)))) (Int.toNat x1) (Prod.fst (List.getD (List.set l3 (Int.toNat x1) (x0,Prod.fst (Prod.snd (List.getD l3 (Int.toNat x1) zz3)),Prod.snd (Prod.snd (List.getD l3 (Int.toNat x1) zz3)))) (Int.toNat x1) zz3),IntKind.wrap .i64 (x0+1),Prod.snd (Prod.snd (List.getD (List.set l3 (Int.toNat x1) (x0,Prod.fst (Prod.snd (List.getD l3 (Int.toNat x1) zz3)),Prod.snd (Prod.snd (List.getD l3 (Int.toNat x1) zz3)))) (Int.toNat x1) zz3)))) (Int.toNat x1) (Prod.fst (List.getD (List.set (List.set l3 (Int.toNat x1) (x0,Prod.fst (Prod.snd (List.getD l3 (Int.toNat x1) zz3)),Prod.snd (Prod.snd (List.getD l3 (Int.toNat x1) zz3)))) (Int.toNat x1) (Prod.fst (List.getD (List.set l3 (Int.toNat x1) (x0,Prod.fst (Prod.snd (List.getD l3 (Int.toNat x1) zz3)),Prod.snd (Prod.snd (List.getD l3 (Int.toNat x1) zz3)))) (Int.toNat x1) zz3),IntKind.wrap .i64 (x0+1),Prod.snd (Prod.snd (List.getD (List.set l3 (Int.toNat x1) (x0,Prod.fst (Prod.snd (List.getD l3 (Int.toNat x1) zz3)),Prod.snd (Prod.snd (List.getD l3 (Int.toNat x1) zz3)))) (Int.toNat x1) zz3)))) (Int.toNat x1) zz3),Prod.fst (Prod.snd (List.getD (List.set (List.set l3 (Int.toNat x1) (x0,Prod.fst (Prod.snd (List.getD l3 (Int.toNat x1) zz3)),Prod.snd (Prod.snd (List.getD l3 (Int.toNat x1) zz3)))) (Int.toNat x1) (Prod.fst (List.getD (List.set l3 (Int.toNat x1) (x0,Prod.fst (Prod.snd (List.getD l3 (Int.toNat x1) zz3)),Prod.snd (Prod.snd (List.getD l3 (Int.toNat x1) zz3)))) (Int.toNat x1) zz3),IntKind.wrap .i64 (x0+1),Prod.snd (Prod.snd (List.getD (List.set l3 (Int.toNat x1) (x0,Prod.fst (Prod.snd (List.getD l3 (Int.toNat x1) zz3)),Prod.snd (Prod.snd (List.getD l3 (Int.toNat x1) zz3)))) (Int.toNat x1) zz3)))) (Int.toNat x1) zz3)),IntKind.wrap .i64 (IntKind.wrap .i64 (x0+1)+1)))))
 none)
 none)
 none)
 (some [.int .i64 x0,.arr true z2 (.r3 l3)]):=by kernel_rfl
theorem ql2 (k:Nat)(a0:Int)(a1z:Bool)(a1:L3)(b:Int):go (k+1) laws_markMesh [.agg [.int .i64 a0,.arr true a1z (.r3 a1)],.int .i64 b]=
 (go k laws_markIdS [.arr true a1z (.r3 a1),.int .i64 b]).bind fun r0=>
 some [.int .i64 (D.toInt (nth r0 0)),.agg [.int .i64 a0,.arr true a1z (.r3 (D.r3 (nth r0 1)))]]:=by kernel_rfl
def qz7 (x0:Int)(z1:Bool)(l2:LI)(z3:Bool)(l4:LI):St:=⟨fill 22 [(0,.sl 0 none),(3,.sl 1 none),(4,.int .i64 x0)],[],[.arr false z1 (.ints .i64 l2),.arr true z3 (.ints .i64 l4)]⟩
theorem qmf (k:Nat)(az:Bool)(a:LI):go (k+1) laws_toIntS [.arr false az (.ints .i64 a)]=
 cond (decide (0≤nI (List.length a))&&decide (nI (List.length a)≤nI (List.length a))&&decide (nI (List.length a)≤nI bigLen))
 (lp k laws_toIntS [] [] 3 k (qz7 0 az a false (List.replicate (Int.toNat (nI (List.length a))) 0)))
 none:=by kernel_rfl
theorem qsa (k n:Nat)(fu:FU)(x0:Int)(z1:Bool)(l2:LI)(z3:Bool)(l4:LI):lp k laws_toIntS [] fu 3 (n+1) (qz7 x0 z1 l2 z3 l4)=
 cond (decide (x0<nI (List.length l2)))
 (cond (decide (0≤x0)&&decide (x0<nI (List.length l2)))
 (cond (decide (0≤x0)&&decide (x0<nI (List.length l4)))
 (lp k laws_toIntS [] fu 3 n (qz7 (IntKind.wrap .i64 (x0+1)) z1 l2 z3 (List.set l4 (Int.toNat x0) (List.getD l2 (Int.toNat x0) 0))))
 none)
 none)
 (some [.arr true z3 (.ints .i64 l4)]):=by kernel_rfl
theorem ql8 (k:Nat)(az:Bool)(a:LI)(b:Int):go (k+1) laws_szIntS [.arr false az (.ints .i64 a),.int .i64 b]=
 cond (decide (IntKind.wrap .i64 (b - nI (List.length a))<0))
 (some [.int .i64 ((-1:Int))])
 (some [.int .i64 (IntKind.wrap .i64 (b - nI (List.length a)))]):=by kernel_rfl
def qzz (x0:Int)(z1:Bool)(l2:LI)(z3:Bool)(l4:LI):St:=⟨fill 26 [(0,.sl 0 none),(1,.sl 1 none),(5,.int .i64 x0)],[],[.arr false z1 (.ints .i64 l2),.arr false z3 (.ints .i64 l4)]⟩
theorem qls (k:Nat)(az:Bool)(a:LI)(bz:Bool)(b:LI):go (k+1) laws_eqIntS [.arr false az (.ints .i64 a),.arr false bz (.ints .i64 b)]=
 cond (!decide (nI (List.length a)=nI (List.length b)))
 (some [.bool false])
 (lp k laws_eqIntS [] [] 4 k (qzz 0 az a bz b)):=by kernel_rfl
theorem qr2 (k n:Nat)(fu:FU)(x0:Int)(z1:Bool)(l2:LI)(z3:Bool)(l4:LI):lp k laws_eqIntS [] fu 4 (n+1) (qzz x0 z1 l2 z3 l4)=
 cond (decide (x0<nI (List.length l2)))
 (cond (decide (0≤x0)&&decide (x0<nI (List.length l2)))
 (cond (decide (0≤x0)&&decide (x0<nI (List.length l4)))
 (cond (!decide (List.getD l2 (Int.toNat x0) 0=List.getD l4 (Int.toNat x0) 0))
 (some [.bool false])
 (lp k laws_eqIntS [] fu 4 n (qzz (IntKind.wrap .i64 (x0+1)) z1 l2 z3 l4)))
 none)
 none)
 (some [.bool true]):=by kernel_rfl
def qz3 (x0 x1:Int)(z2:Bool)(l3:LI):St:=⟨fill 19 [(0,.sl 0 none),(1,.int .i64 x0),(5,.int .i64 x1)],[.sl 0 none],[.arr true z2 (.ints .i64 l3)]⟩
theorem ql1 (k:Nat)(az:Bool)(a:LI)(b:Int):go (k+1) laws_markIntS [.arr true az (.ints .i64 a),.int .i64 b]=
 lp k laws_markIntS [.arr true az (.ints .i64 a)] [] 2 k (qz3 b 0 az a):=by kernel_rfl
theorem qr6 (k n:Nat)(fu:FU)(az:Bool)(a:LI)(x0 x1:Int)(z2:Bool)(l3:LI):lp k laws_markIntS [.arr true az (.ints .i64 a)] fu 2 (n+1) (qz3 x0 x1 z2 l3)=
 cond (decide (x1<nI (List.length l3)))
 (cond (decide (0≤x1)&&decide (x1<nI (List.length l3)))
 (lp k laws_markIntS [.arr true az (.ints .i64 a)] fu 2 n (qz3 (IntKind.wrap .i64 (x0+1)) (IntKind.wrap .i64 (x1+1)) z2 (List.set l3 (Int.toNat x1) x0)))
 none)
 (some [.int .i64 x0,.arr true z2 (.ints .i64 l3)]):=by kernel_rfl

end Go.Proofs.YtjfjniebmdafeaaGreatDoor
end
section
namespace Go.Proofs.YtjfjniebmdafeaaGreatDoor
open Go.Ev
theorem q09 {α:Type}(l o:List α)(i:Nat)(d:α)(h:i<l.length)(ho:o.length=l.length):(o.set i (l.getD i d)).take (i+1)++l.drop (i+1)=o.take i++l.drop i:=by
  rw [qi5 h d]
  have:(o.set i (l.getD i d)).take (i+1)=o.take i++[l.getD i d]:=by
    rw [List.take_succ_eq_append_getElem (by simp; omega)]
    simp [List.take_set_of_le]
  rw [this]; simp
theorem qe4 (k:Nat)(hk:2000000≤k)(a0:Int)(a1:Int)(a2:Int):go (k+1) laws_toId [(.agg [(.int .i64 (a0)),(.int .i64 (a1)),(.int .i64 (a2))])]=some [.agg [.int .i64 a0,.int .i64 a1,.int .i64 a2]]:=by rw [qmd]
theorem quw (k:Nat)(hk:2000000≤k)(fu:List (Nat×Nat))(z z' :Bool)(l:List Cell)(hl:(l.length:Int)≤1048576): ∀ (n i:Nat)(o:List Cell),i≤l.length→o.length=l.length→l.length - i<n→
    lp (k+1) laws_toIdS [] fu 3 (n) (qz6 (i:Int) z l z' o)=some [.arr true z' (.r3 (o.take i++l.drop i))]
  | 0,i,o,hi,ho,hn=>by omega
  | n+1,i,o,hi,ho,hn=>by
    rw [qr9]
    by_cases h:i<l.length
    · simp (disch:=omega) only [wk,bit,nI,qe4]
      rw [quw k hk fu z z' l hl n (i+1) _ (by omega) (by simp [ho]) (by omega)]
      exact congrArg (fun x=>some [D.arr true z' (.r3 x)]) (q09 l o i zz3 h ho)
    · simp (disch:=omega) only [wk,bit,nI]
      have hil:i=l.length:=by omega
      rw [hil,List.drop_length,List.append_nil,List.take_of_length_le (by omega)]
theorem qe5 (k:Nat)(hk:2000000≤k)(az:Bool)(a:List (Int×Int×Int))(hl:(a.length:Int)≤1048576):go (k+2) laws_toIdS [(.arr false (az) (.r3 (a)))]=some [.arr true false (.r3 a)]:=by
  rw [qme]
  simp (disch:=omega) only [wk,bit,nI]
  refine Eq.trans (quw k hk [] az false a hl _ 0 (List.replicate a.length zz3) (by omega) (by simp) (by omega)) ?_
  simp
theorem qe8 (k:Nat)(hk:2000000≤k)(a0:Int)(a1z:Bool)(a1:List (Int×Int×Int))(hl:(a1.length:Int)≤1048576):go (k+3) laws_toMesh [(.agg [(.int .i64 (a0)),(.arr false (a1z) (.r3 (a1)))])]=some [.agg [.int .i64 a0,.arr true false (.r3 a1)]]:=by
  rw [qmh]
  simp (disch:=omega) only [wk,bit,nI,qe5]
theorem qey (k:Nat)(hk:2000000≤k)(az:Bool)(a:List (Int×Int×Int))(b:Int)(hl:(a.length:Int)≤9223372036854775807)(hb:0≤b)(hb' :b≤1048576):go (k+1) laws_szIdS [(.arr false (az) (.r3 (a))),(.int .i64 (b))]=some [.int .i64 (if (a.length:Int)≤b then b - a.length else -1)]:=by
  rw [ql7]
  by_cases h:(a.length:Int)≤b
  · simp (disch:=omega) only [wk,bit,nI,if_pos h]
  · simp (disch:=omega) only [wk,bit,nI,if_neg h]
theorem qe0 (k:Nat)(hk:2000000≤k)(a0:Int)(a1z:Bool)(a1:List (Int×Int×Int))(b:Int)(hl:(a1.length:Int)≤9223372036854775807)(hb:0≤b)(hb' :b≤1048576):go (k+2) laws_szMesh [(.agg [(.int .i64 (a0)),(.arr false (a1z) (.r3 (a1)))]),(.int .i64 (b))]=some [.int .i64 (if (a1.length:Int)≤b then b - a1.length else -1)]:=by
  rw [ql9]
  simp (disch:=omega) only [wk,bit,nI,qey]
  by_cases h:(a1.length:Int)≤b
  · simp (disch:=omega) only [wk,bit,nI,if_pos h]
  · simp (disch:=omega) only [wk,bit,nI,if_neg h]
theorem qeh (k:Nat)(hk:2000000≤k)(a b c:Int):go (k+1) laws_eqId [.agg [.int .i64 a,.int .i64 b,.int .i64 c],.agg [.int .i64 a,.int .i64 b,.int .i64 c]]=some [.bool true]:=by
  rw [qlq]; simp
theorem qus (k:Nat)(hk:2000000≤k)(fu:List (Nat×Nat))(z z' :Bool)(l:List Cell)(hl:(l.length:Int)≤1048576): ∀ (n i:Nat),i≤l.length→l.length - i<n→
    lp (k+1) laws_eqIdS [] fu 4 (n) (qzy (i:Int) z l z' l)=some [.bool true]
  | 0,i,hi,hn=>by omega
  | n+1,i,hi,hn=>by
    rw [qr1]
    by_cases h:i<l.length
    · simp (disch:=omega) only [wk,bit,nI,qeh]
      exact qus k hk fu z z' l hl n (i+1) (by omega) (by omega)
    · simp (disch:=omega) only [wk,bit,nI]
theorem qei (k:Nat)(hk:2000000≤k)(z z' :Bool)(l:List Cell)(hl:(l.length:Int)≤1048576):go (k+2) laws_eqIdS [.arr false z (.r3 l),.arr false z' (.r3 l)]=some [.bool true]:=by
  rw [qlr]
  simp (disch:=omega) only [wk,bit,nI]
  exact qus k hk [] z z' l hl _ 0 (by omega) (by omega)
theorem qel (k:Nat)(hk:2000000≤k)(roots:Int)(z z' :Bool)(l:List Cell)(hl:(l.length:Int)≤1048576):go (k+3) laws_eqMesh [.agg [.int .i64 roots,.arr false z (.r3 l)],.agg [.int .i64 roots,.arr false z' (.r3 l)]]=some [.bool true]:=by
  rw [qlu]
  simp (disch:=omega) only [wk,bit,nI,qei]
theorem qux (k:Nat)(hk:2000000≤k)(fu:List (Nat×Nat))(z z' :Bool)(l:List Int)(hl:(l.length:Int)≤1048576): ∀ (n i:Nat)(o:List Int),i≤l.length→o.length=l.length→l.length - i<n→
    lp k laws_toIntS [] fu 3 (n) (qz7 (i:Int) z l z' o)=some [.arr true z' (.ints .i64 (o.take i++l.drop i))]
  | 0,i,o,hi,ho,hn=>by omega
  | n+1,i,o,hi,ho,hn=>by
    rw [qsa]
    by_cases h:i<l.length
    · simp (disch:=omega) only [wk,bit,nI]
      rw [qux k hk fu z z' l hl n (i+1) _ (by omega) (by simp [ho]) (by omega)]
      exact congrArg (fun x=>some [D.arr true z' (.ints .i64 x)]) (q09 l o i 0 h ho)
    · simp (disch:=omega) only [wk,bit,nI]
      have hil:i=l.length:=by omega
      rw [hil,List.drop_length,List.append_nil,List.take_of_length_le (by omega)]
theorem qe6 (k:Nat)(hk:2000000≤k)(az:Bool)(a:List Int)(hl:(a.length:Int)≤1048576):go (k+1) laws_toIntS [(.arr false (az) (.ints .i64 (a)))]=some [.arr true false (.ints .i64 a)]:=by
  rw [qmf]
  simp (disch:=omega) only [wk,bit,nI]
  refine Eq.trans (qux k hk [] az false a hl _ 0 (List.replicate a.length 0) (by omega) (by simp) (by omega)) ?_
  simp
theorem qez (k:Nat)(hk:2000000≤k)(az:Bool)(a:List Int)(b:Int)(hl:(a.length:Int)≤9223372036854775807)(hb:0≤b)(hb' :b≤1048576):go (k+1) laws_szIntS [(.arr false (az) (.ints .i64 (a))),(.int .i64 (b))]=some [.int .i64 (if (a.length:Int)≤b then b - a.length else -1)]:=by
  rw [ql8]
  by_cases h:(a.length:Int)≤b
  · simp (disch:=omega) only [wk,bit,nI,if_pos h]
  · simp (disch:=omega) only [wk,bit,nI,if_neg h]
theorem qut (k:Nat)(hk:2000000≤k)(fu:List (Nat×Nat))(z z' :Bool)(l:List Int)(hl:(l.length:Int)≤1048576): ∀ (n i:Nat),i≤l.length→l.length - i<n→
    lp k laws_eqIntS [] fu 4 (n) (qzz (i:Int) z l z' l)=some [.bool true]
  | 0,i,hi,hn=>by omega
  | n+1,i,hi,hn=>by
    rw [qr2]
    by_cases h:i<l.length
    · simp (disch:=omega) only [wk,bit,nI]
      exact qut k hk fu z z' l hl n (i+1) (by omega) (by omega)
    · simp (disch:=omega) only [wk,bit,nI]
theorem qej (k:Nat)(hk:2000000≤k)(z z' :Bool)(l:List Int)(hl:(l.length:Int)≤1048576):go (k+1) laws_eqIntS [.arr false z (.ints .i64 l),.arr false z' (.ints .i64 l)]=some [.bool true]:=by
  rw [qls]
  simp (disch:=omega) only [wk,bit,nI]
  exact qut k hk [] z z' l hl _ 0 (by omega) (by omega)
def marks (b:Int):Nat→List Int
  | 0=>[]
  | n+1=>b::marks (b+1) n
theorem quv (k:Nat)(hk:2000000≤k)(fu:List (Nat×Nat))(az:Bool)(a:List Int)(z:Bool)(L:Nat)(hl:(L:Int)≤1048576): ∀ (n i:Nat)(l:List Int)(b:Int),l.length=L→i≤L→0≤b→b≤8796093022208+i→L - i<n→
    lp k laws_markIntS [(.arr true (az) (.ints .i64 (a)))] fu 2 (n) (qz3 b (i:Int) z l)=some [.int .i64 (b+(L - i:Nat)),.arr true z (.ints .i64 (l.take i++marks b (L - i)))]
  | 0,i,l,b,hL,hi,h0,hb,hn=>by omega
  | n+1,i,l,b,hL,hi,h0,hb,hn=>by
    rw [qr6]
    by_cases h:i<L
    · simp (disch:=omega) only [wk,bit,nI]
      rw [quv k hk fu az a z L hl n (i+1) (l.set i b) (b+1) (by simp [hL]) (by omega) (by omega) (by omega) (by omega)]
      rw [q07 l l i b _ (by omega),show L - i=(L - (i+1))+1 by omega]
      simp only [marks]
      rw [show b+1+((L - (i+1):Nat):Int)=b+((L - (i+1)+1:Nat):Int) by omega]
    · simp (disch:=omega) only [wk,bit,nI]
      rw [show L - i=0 by omega]
      simp only [marks,List.append_nil]
      rw [List.take_of_length_le (by omega)]
      simp
theorem qes (k:Nat)(hk:2000000≤k)(az:Bool)(a:List Int)(b:Int)(hl:(a.length:Int)≤1048576)(h0:0≤b)(hb:b≤8796093022208):go (k+1) laws_markIntS [(.arr true (az) (.ints .i64 (a))),(.int .i64 (b))]=some [.int .i64 (b+a.length),.arr true az (.ints .i64 (marks b a.length))]:=by
  rw [ql1]
  have e:=quv k hk [] az a az a.length hl k 0 a b rfl (by omega) h0 (by omega) (by omega)
  simpa using e
end Go.Proofs.YtjfjniebmdafeaaGreatDoor
end
section
namespace Go.Proofs.YtjfjniebmdafeaaGreatDoor
open Go.Ev
theorem qfa (k:Nat)(hk:2000000≤k)(a0:Int)(a1z:Bool)(a1:List (Int×Int×Int))(a2z:Bool)(a2:List Int)(a3z:Bool)(a3:List Int)(a4z:Bool)(a4:List Int)(h1:(a1.length:Int)≤1048576)(h2:(a2.length:Int)≤1048576)(h3:(a3.length:Int)≤1048576)(h4:(a4.length:Int)≤1048576):
    go (k+4) laws_toState [(.agg [(.int .i64 (a0)),(.arr false (a1z) (.r3 (a1))),(.arr false (a2z) (.ints .i64 (a2))),(.arr false (a3z) (.ints .i64 (a3))),(.arr false (a4z) (.ints .i64 (a4)))])]=some [.agg [.int .i64 a0,.arr true false (.r3 a1),.arr true false (.ints .i64 a2),.arr true false (.ints .i64 a3),.arr true false (.ints .i64 a4)]]:=by
  rw [qmj]
  simp (disch:=omega) only [wk,bit,nI,qe8,qe6]
theorem qe1 (k:Nat)(hk:2000000≤k)(a0:Int)(a1z:Bool)(a1:List (Int×Int×Int))(a2z:Bool)(a2:List Int)(a3z:Bool)(a3:List Int)(a4z:Bool)(a4:List Int)(b:Int)(h1:(a1.length:Int)≤9223372036854775807)(h2:(a2.length:Int)≤9223372036854775807)(h3:(a3.length:Int)≤9223372036854775807)(h4:(a4.length:Int)≤9223372036854775807)(hb:0≤b)(hb' :b≤1048576):
    go (k+3) laws_szState [(.agg [(.int .i64 (a0)),(.arr false (a1z) (.r3 (a1))),(.arr false (a2z) (.ints .i64 (a2))),(.arr false (a3z) (.ints .i64 (a3))),(.arr false (a4z) (.ints .i64 (a4)))]),(.int .i64 (b))]=some [.int .i64 (if (a1.length:Int)+a2.length+a3.length+a4.length≤b then b - a1.length - a2.length - a3.length - a4.length else -1)]:=by
  rw [qma]
  by_cases g1:(a1.length:Int)≤b
  case neg=>rw [if_neg (c:=(a1.length:Int)+a2.length+a3.length+a4.length≤b) (by omega)]; simp (disch:=omega) only [wk,bit,nI,qe0,if_neg g1]
  by_cases g2:(a2.length:Int)≤b - a1.length
  case neg=>rw [if_neg (c:=(a1.length:Int)+a2.length+a3.length+a4.length≤b) (by omega)]; simp (disch:=omega) only [wk,bit,nI,qe0,qez,if_pos g1,if_neg g2]
  by_cases g3:(a3.length:Int)≤b - a1.length - a2.length
  case neg=>rw [if_neg (c:=(a1.length:Int)+a2.length+a3.length+a4.length≤b) (by omega)]; simp (disch:=omega) only [wk,bit,nI,qe0,qez,if_pos g1,if_pos g2,if_neg g3]
  by_cases g4:(a4.length:Int)≤b - a1.length - a2.length - a3.length
  case neg=>rw [if_neg (c:=(a1.length:Int)+a2.length+a3.length+a4.length≤b) (by omega)]; simp (disch:=omega) only [wk,bit,nI,qe0,qez,if_pos g1,if_pos g2,if_pos g3,if_neg g4]
  rw [if_pos (c:=(a1.length:Int)+a2.length+a3.length+a4.length≤b) (by omega)]; simp (disch:=omega) only [wk,bit,nI,qe0,qez,if_pos g1,if_pos g2,if_pos g3,if_pos g4]
theorem qen (k:Nat)(hk:2000000≤k)(r:Int)(z1 z2 z3 z4 y1 y2 y3 y4:Bool)(l:List Cell)(m t b:List Int)(h1:(l.length:Int)≤1048576)(h2:(m.length:Int)≤1048576)(h3:(t.length:Int)≤1048576)(h4:(b.length:Int)≤1048576):
    go (k+4) laws_eqState [.agg [.int .i64 r,.arr false z1 (.r3 l),.arr false z2 (.ints .i64 m),.arr false z3 (.ints .i64 t),.arr false z4 (.ints .i64 b)],.agg [.int .i64 r,.arr false y1 (.r3 l),.arr false y2 (.ints .i64 m),.arr false y3 (.ints .i64 t),.arr false y4 (.ints .i64 b)]]=some [.bool true]:=by
  rw [qlw]
  simp (disch:=omega) only [wk,bit,nI,qel,qej]
end Go.Proofs.YtjfjniebmdafeaaGreatDoor
end
section
namespace Go.Proofs.YtjfjniebmdafeaaGreatDoor
open Go.Ev
theorem qe3 (k:Nat)(hk:2000000≤k)(a0:Int)(a1:Int)(a2:Int):go (k+1) laws_toBorder [(.agg [(.int .i64 (a0)),(.int .i64 (a1)),(.int .i64 (a2))])]=some [.agg [.int .i64 a0,.int .i64 a1,.int .i64 a2]]:=by
  rw [qmc]
theorem qe7 (k:Nat)(hk:2000000≤k)(a0:Int)(a1:Int)(a2:Int)(a3:Int):go (k+1) laws_toLedger [(.agg [(.int .i64 (a0)),(.int .i64 (a1)),(.int .i64 (a2)),(.int .i64 (a3))])]=some [.agg [.int .i64 a0,.int .i64 a1,.int .i64 a2,.int .i64 a3]]:=by
  rw [qmg]
theorem qe9 (k:Nat)(hk:2000000≤k)(a0:Int)(a1:Int)(a2:Int)(a3:Int)(a4:Int)(a5:Int)(a6:Int)(a7:Int)(a8:Int):go (k+2) laws_toPlan [(.agg [(.int .i64 (a0)),(.int .i64 (a1)),(.int .i64 (a2)),(.int .i64 (a3)),(.int .i64 (a4)),(.int .i64 (a5)),(.int .i64 (a6)),(.int .i64 (a7)),(.int .i64 (a8))])]=some [.agg [.int .i64 a0,.int .i64 a1,.int .i64 a2,.int .i64 a3,.int .i64 a4,.int .i64 a5,.int .i64 a6,.int .i64 a7,.int .i64 a8]]:=by
  rw [qmi]
  simp (disch:=omega) only [wk,bit,nI,qe3]
theorem qeg (k:Nat)(hk:2000000≤k)(a0:Int)(a1:Int)(a2:Int):go (k+1) laws_eqBorder [.agg [.int .i64 a0,.int .i64 a1,.int .i64 a2],.agg [.int .i64 a0,.int .i64 a1,.int .i64 a2]]=some [.bool true]:=by
  rw [qlp]
  simp (disch:=omega) only [wk,bit,nI]
theorem qek (k:Nat)(hk:2000000≤k)(a0:Int)(a1:Int)(a2:Int)(a3:Int):go (k+1) laws_eqLedger [.agg [.int .i64 a0,.int .i64 a1,.int .i64 a2,.int .i64 a3],.agg [.int .i64 a0,.int .i64 a1,.int .i64 a2,.int .i64 a3]]=some [.bool true]:=by
  rw [qlt]
  simp (disch:=omega) only [wk,bit,nI]
theorem qem (k:Nat)(hk:2000000≤k)(a0:Int)(a1:Int)(a2:Int)(a3:Int)(a4:Int)(a5:Int)(a6:Int)(a7:Int)(a8:Int):go (k+2) laws_eqPlan [.agg [.int .i64 a0,.int .i64 a1,.int .i64 a2,.int .i64 a3,.int .i64 a4,.int .i64 a5,.int .i64 a6,.int .i64 a7,.int .i64 a8],.agg [.int .i64 a0,.int .i64 a1,.int .i64 a2,.int .i64 a3,.int .i64 a4,.int .i64 a5,.int .i64 a6,.int .i64 a7,.int .i64 a8]]=some [.bool true]:=by
  rw [qlv]
  simp (disch:=omega) only [wk,bit,nI,qeg]
theorem qfb (k:Nat)(hk:2000000≤k)(a0:Int)(a1z:Bool)(a1:List (Int×Int×Int))(a2z:Bool)(a2:List Int)(a3z:Bool)(a3:List Int)(a4z:Bool)(a4:List Int)(a5:Int)(a6:Int)(a7:Int)(a8:Int)(a9:Int)(a10:Int)(a11:Int)(a12:Int)(a13:Int)(a14:Int)(a15:Int)(a16:Int)(a17:Int)(a18:Int)(a19:Int)(a20:Int)(h1:(a1.length:Int)≤1048576)(h2:(a2.length:Int)≤1048576)(h3:(a3.length:Int)≤1048576)(h4:(a4.length:Int)≤1048576):go (k+5) laws_toWorld [(.agg [(.int .i64 (a0)),(.arr false (a1z) (.r3 (a1))),(.arr false (a2z) (.ints .i64 (a2))),(.arr false (a3z) (.ints .i64 (a3))),(.arr false (a4z) (.ints .i64 (a4))),(.int .i64 (a5)),(.int .i64 (a6)),(.int .i64 (a7)),(.int .i64 (a8)),(.int .i64 (a9)),(.int .i64 (a10)),(.int .i64 (a11)),(.int .i64 (a12)),(.int .i64 (a13)),(.int .i64 (a14)),(.int .i64 (a15)),(.int .i64 (a16)),(.int .i64 (a17)),(.int .i64 (a18)),(.int .i64 (a19)),(.int .i64 (a20))])]=some [.agg [.int .i64 a0,.arr true false (.r3 a1),.arr true false (.ints .i64 a2),.arr true false (.ints .i64 a3),.arr true false (.ints .i64 a4),.int .i64 a5,.int .i64 a6,.int .i64 a7,.int .i64 a8,.int .i64 a9,.int .i64 a10,.int .i64 a11,.int .i64 a12,.int .i64 a13,.int .i64 a14,.int .i64 a15,.int .i64 a16,.int .i64 a17,.int .i64 a18,.int .i64 a19,.int .i64 a20]]:=by
  rw [qmk]
  simp (disch:=omega) only [wk,bit,nI,qfa,qe9,qe7]
theorem qe2 (k:Nat)(hk:2000000≤k)(a0:Int)(a1z:Bool)(a1:List (Int×Int×Int))(a2z:Bool)(a2:List Int)(a3z:Bool)(a3:List Int)(a4z:Bool)(a4:List Int)(a5:Int)(a6:Int)(a7:Int)(a8:Int)(a9:Int)(a10:Int)(a11:Int)(a12:Int)(a13:Int)(a14:Int)(a15:Int)(a16:Int)(a17:Int)(a18:Int)(a19:Int)(a20:Int)(b:Int)(h1:(a1.length:Int)≤9223372036854775807)(h2:(a2.length:Int)≤9223372036854775807)(h3:(a3.length:Int)≤9223372036854775807)(h4:(a4.length:Int)≤9223372036854775807)(hb:0≤b)(hb' :b≤1048576):
    go (k+4) laws_szWorld [(.agg [(.int .i64 (a0)),(.arr false (a1z) (.r3 (a1))),(.arr false (a2z) (.ints .i64 (a2))),(.arr false (a3z) (.ints .i64 (a3))),(.arr false (a4z) (.ints .i64 (a4))),(.int .i64 (a5)),(.int .i64 (a6)),(.int .i64 (a7)),(.int .i64 (a8)),(.int .i64 (a9)),(.int .i64 (a10)),(.int .i64 (a11)),(.int .i64 (a12)),(.int .i64 (a13)),(.int .i64 (a14)),(.int .i64 (a15)),(.int .i64 (a16)),(.int .i64 (a17)),(.int .i64 (a18)),(.int .i64 (a19)),(.int .i64 (a20))]),(.int .i64 (b))]=some [.int .i64 (if (a1.length:Int)+a2.length+a3.length+a4.length≤b then b - a1.length - a2.length - a3.length - a4.length else -1)]:=by
  rw [qmb]
  by_cases g:(a1.length:Int)+a2.length+a3.length+a4.length≤b
  · rw [if_pos g]; simp (disch:=omega) only [wk,bit,nI,qe1,if_pos g]
  · rw [if_neg g]; simp (disch:=omega) only [wk,bit,nI,qe1,if_neg g]
theorem qep (k:Nat)(hk:2000000≤k)(a0:Int)(z1 z2 z3 z4 y1 y2 y3 y4:Bool)(a1:List Cell)(a2 a3 a4:List Int)(a5:Int)(a6:Int)(a7:Int)(a8:Int)(a9:Int)(a10:Int)(a11:Int)(a12:Int)(a13:Int)(a14:Int)(a15:Int)(a16:Int)(a17:Int)(a18:Int)(a19:Int)(a20:Int)(h1:(a1.length:Int)≤1048576)(h2:(a2.length:Int)≤1048576)(h3:(a3.length:Int)≤1048576)(h4:(a4.length:Int)≤1048576):
    go (k+5) laws_eqWorld [.agg [.int .i64 a0,.arr false z1 (.r3 a1),.arr false z2 (.ints .i64 a2),.arr false z3 (.ints .i64 a3),.arr false z4 (.ints .i64 a4),.int .i64 a5,.int .i64 a6,.int .i64 a7,.int .i64 a8,.int .i64 a9,.int .i64 a10,.int .i64 a11,.int .i64 a12,.int .i64 a13,.int .i64 a14,.int .i64 a15,.int .i64 a16,.int .i64 a17,.int .i64 a18,.int .i64 a19,.int .i64 a20],.agg [.int .i64 a0,.arr false y1 (.r3 a1),.arr false y2 (.ints .i64 a2),.arr false y3 (.ints .i64 a3),.arr false y4 (.ints .i64 a4),.int .i64 a5,.int .i64 a6,.int .i64 a7,.int .i64 a8,.int .i64 a9,.int .i64 a10,.int .i64 a11,.int .i64 a12,.int .i64 a13,.int .i64 a14,.int .i64 a15,.int .i64 a16,.int .i64 a17,.int .i64 a18,.int .i64 a19,.int .i64 a20]]=some [.bool true]:=by
  rw [qly]
  simp (disch:=omega) only [wk,bit,nI,qen,qem,qek]
end Go.Proofs.YtjfjniebmdafeaaGreatDoor
end
section
namespace Go.Proofs.YtjfjniebmdafeaaGreatDoor
open Go.Ev
def qtd (a b c d:Int):Bool:=inR a 0 1000000000000000&&(inR b 0 1000000000000000&&(inR c 0 1000000000000000&&inR d 0 1000000000000000))
theorem qg8 (k:Nat)(hk:2000000≤k)(a:Int):go (k+2) spec_l36Amount [(.int .i64 (a))]=some [.bool (inR a 0 1000000000000000)]:=by
  rw [qok]
  simp (disch:=omega) only [wk,bit,nI,qgl]
theorem qdt (k:Nat)(hk:2000000≤k)(a0:Int)(a1:Int)(a2:Int)(a3:Int):go (k+2) impl_ledgerOk [(.agg [(.int .i64 (a0)),(.int .i64 (a1)),(.int .i64 (a2)),(.int .i64 (a3))])]=some [.bool (qtd a0 a1 a2 a3)]:=by
  rw [qlk]
  simp (disch:=omega) only [wk,bit,nI,qed,qim]
  rfl
def q39 (a0:Int)(a1:List Cell)(a2 a3 a4:List Int)(b0 b1 b2 b3 b4 b5 b6 b7 b8 s c0 c1 c2 c3 f g:Int):Bool:=
  stOk a0 a1 a2 a3 a4&&(qxn b0 b1 b2 b3 b4 b5 b6 b7 b8&&(inR s 0 100000&&(qtd c0 c1 c2 c3&&(decide (isum a2 - c0+c1=f)&&decide (isum a3 - c2+c3=g)))))
theorem qp2 {a m:Int}(h:inR a 0 m=true):0≤a∧a≤m:=by
  simp only [inR,Bool.and_eq_true,decide_eq_true_eq] at h
  omega
theorem qiw (a b:Int):decide (a=b)=decide (b=a):=decide_eq_decide.2 eq_comm
theorem qgh (k:Nat)(hk:2000000≤k)(a0:Int)(a1z:Bool)(a1:List (Int×Int×Int))(a2z:Bool)(a2:List Int)(a3z:Bool)(a3:List Int)(a4z:Bool)(a4:List Int)(a5:Int)(a6:Int)(a7:Int)(a8:Int)(a9:Int)(a10:Int)(a11:Int)(a12:Int)(a13:Int)(a14:Int)(a15:Int)(a16:Int)(a17:Int)(a18:Int)(a19:Int)(a20:Int)(h1:(a1.length:Int)≤1048576)(h4:(a4.length:Int)≤1048576):
    go (k+8) spec_WorldOk [(.agg [(.int .i64 (a0)),(.arr false (a1z) (.r3 (a1))),(.arr false (a2z) (.ints .i64 (a2))),(.arr false (a3z) (.ints .i64 (a3))),(.arr false (a4z) (.ints .i64 (a4))),(.int .i64 (a5)),(.int .i64 (a6)),(.int .i64 (a7)),(.int .i64 (a8)),(.int .i64 (a9)),(.int .i64 (a10)),(.int .i64 (a11)),(.int .i64 (a12)),(.int .i64 (a13)),(.int .i64 (a14)),(.int .i64 (a15)),(.int .i64 (a16)),(.int .i64 (a17)),(.int .i64 (a18)),(.int .i64 (a19)),(.int .i64 (a20))])]=some [.bool (q39 a0 a1 a2 a3 a4 a5 a6 a7 a8 a9 a10 a11 a12 a13 a14 a15 a16 a17 a18 a19 a20)]:=by
  rw [qnp]
  simp (disch:=omega) only [wk,bit,nI,qge,qf7,qgl,qg8]
  simp only [q39,qtd]
  cases g:stOk a0 a1 a2 a3 a4
  · rfl
  cases g2:qxn a5 a6 a7 a8 a9 a10 a11 a12 a13
  · rfl
  cases g3:inR a14 0 100000
  · rfl
  cases g4:inR a15 0 1000000000000000
  · rfl
  cases g5:inR a16 0 1000000000000000
  · rfl
  cases g6:inR a17 0 1000000000000000
  · rfl
  cases g7:inR a18 0 1000000000000000
  · rfl
  have F:=stF.1 g
  have:=F.len; have:=F.ml; have:=F.tl; have:=F.bl; have:=F.rr
  have b4:=qp2 g4; have b5:=qp2 g5; have b6:=qp2 g6; have b7:=qp2 g7
  have s1:=qqh _ F.mmem; have s2:=qqh _ F.tmem
  simp only [Bool.not_true,qii,Bool.true_and]
  rw [qgv _ (by omega) _ _ (by omega) F.mmem,qgv _ (by omega) _ _ (by omega) F.tmem]
  simp (disch:=omega) only [wk,bit,nI,qim]
theorem qc1 (k:Nat)(hk:2000000≤k)(a0:Int)(a1z:Bool)(a1:List (Int×Int×Int))(a2z:Bool)(a2:List Int)(a3z:Bool)(a3:List Int)(a4z:Bool)(a4:List Int)(a5:Int)(a6:Int)(a7:Int)(a8:Int)(a9:Int)(a10:Int)(a11:Int)(a12:Int)(a13:Int)(a14:Int)(a15:Int)(a16:Int)(a17:Int)(a18:Int)(a19:Int)(a20:Int)(h1:(a1.length:Int)≤1048576)(h4:(a4.length:Int)≤1048576):
    go (k+9) impl_WorldOk [(.agg [(.int .i64 (a0)),(.arr false (a1z) (.r3 (a1))),(.arr false (a2z) (.ints .i64 (a2))),(.arr false (a3z) (.ints .i64 (a3))),(.arr false (a4z) (.ints .i64 (a4))),(.int .i64 (a5)),(.int .i64 (a6)),(.int .i64 (a7)),(.int .i64 (a8)),(.int .i64 (a9)),(.int .i64 (a10)),(.int .i64 (a11)),(.int .i64 (a12)),(.int .i64 (a13)),(.int .i64 (a14)),(.int .i64 (a15)),(.int .i64 (a16)),(.int .i64 (a17)),(.int .i64 (a18)),(.int .i64 (a19)),(.int .i64 (a20))])]=some [.bool (q39 a0 a1 a2 a3 a4 a5 a6 a7 a8 a9 a10 a11 a12 a13 a14 a15 a16 a17 a18 a19 a20)]:=by
  rw [qk3]
  simp (disch:=omega) only [wk,bit,nI,qcw,qcn,qed,qdt]
  simp only [q39]
  cases g:stOk a0 a1 a2 a3 a4
  · rfl
  cases g2:qxn a5 a6 a7 a8 a9 a10 a11 a12 a13
  · rfl
  cases g3:inR a14 0 100000
  · rfl
  cases g4:qtd a15 a16 a17 a18
  · rfl
  have F:=stF.1 g
  have:=F.len; have:=F.ml; have:=F.tl; have:=F.bl; have:=F.rr
  have g4' :=g4
  simp only [qtd,Bool.and_eq_true] at g4'
  obtain ⟨i1,i2,i3,i4⟩:=g4'
  have b4:=qp2 i1; have b5:=qp2 i2; have b6:=qp2 i3; have b7:=qp2 i4
  have s1:=qqh _ F.mmem; have s2:=qqh _ F.tmem
  simp only [qik,Bool.true_and]
  rw [qd9 _ (by omega) _ _ (by omega) F.mmem,qd9 _ (by omega) _ _ (by omega) F.tmem]
  simp (disch:=omega) only [wk,bit,nI,qim]
  rw [qiw a19,qiw a20]
end Go.Proofs.YtjfjniebmdafeaaGreatDoor
end
section
namespace Go.Proofs.YtjfjniebmdafeaaGreatDoor
open Go.Ev
theorem qjo (k:Nat)(a0:Int)(a1z:Bool)(a1:L3)(b:Int):go (k+1) impl_LeafAt [.agg [.int .i64 a0,.arr false a1z (.r3 a1)],.int .i64 b]=
 (go k impl_MeshOk [.agg [.int .i64 a0,.arr false a1z (.r3 a1)]]).bind fun r0=>
 cond (!bit (nth r0 0))
 (some [.int .i64 ((-1:Int))])
 ((go k slices_IndexFunc_impl_Id_impl_Id [.arr false a1z (.r3 a1),.fn impl_LeafAt_1 [.ptr false [.int .i64 b]]]).bind fun r1=>
 some [.int .i64 (D.toInt (nth r1 0))]):=by kernel_rfl
theorem qjp (k:Nat)(v0 v1 v2 v3:Int):go (k+1) impl_LeafAt_1 [.agg [.int .i64 v0,.int .i64 v1,.int .i64 v2],.ptr false [.int .i64 v3]]=
 (go k impl_StartOf [.agg [.int .i64 v0,.int .i64 v1,.int .i64 v2]]).bind fun r0=>
 cond (decide (D.toInt (nth r0 0)≤v3))
 ((go k impl_endOf [.agg [.int .i64 v0,.int .i64 v1,.int .i64 v2]]).bind fun r1=>
 some [.bool (decide (v3<D.toInt (nth r1 0)))])
 (some [.bool false]):=by kernel_rfl
def qz9 (x0 x1:Int)(z2:Bool)(l3:L3)(x4:Int):St:=⟨fill 19 [(0,.sl 0 none),(1,.fn impl_LeafAt_1 [.ptr 1 0 0]),(7,.int .i64 x0),(8,.int .i64 x1)],[],[.arr false z2 (.r3 l3),.box false [.int .i64 x4]]⟩
theorem qmq (k:Nat)(v0:Bool)(v1:L3)(v2:Int):go (k+1) slices_IndexFunc_impl_Id_impl_Id [.arr false v0 (.r3 v1),.fn impl_LeafAt_1 [.ptr false [.int .i64 v2]]]=
 lp k slices_IndexFunc_impl_Id_impl_Id [] [] 2 k (qz9 (nI (List.length v1)) 0 v0 v1 v2):=by kernel_rfl
theorem qsc (k n:Nat)(fu:FU)(x0 x1:Int)(z2:Bool)(l3:L3)(x4:Int):lp k slices_IndexFunc_impl_Id_impl_Id [] fu 2 (n+1) (qz9 x0 x1 z2 l3 x4)=
 cond (decide (x1<x0))
 (cond (decide (0≤x1)&&decide (x1<nI (List.length l3)))
 ((go k impl_LeafAt_1 [.agg [.int .i64 (Prod.fst (List.getD l3 (Int.toNat x1) zz3)),.int .i64 (Prod.fst (Prod.snd (List.getD l3 (Int.toNat x1) zz3))),.int .i64 (Prod.snd (Prod.snd (List.getD l3 (Int.toNat x1) zz3)))],.ptr false [.int .i64 x4]]).bind fun r0=>
 cond (bit (nth r0 0))
 (some [.int .i64 x1])
 (lp k slices_IndexFunc_impl_Id_impl_Id [] fu 2 n (qz9 x0 (IntKind.wrap .i64 (x1+1)) z2 l3 x4)))
 none)
 (some [.int .i64 ((-1:Int))]):=by kernel_rfl
def q0h (x0 x1:Int)(z2:Bool)(l3:L3)(x4:Int):St:=⟨fill 36 [(1,.int .i64 x0),(2,.ptr 1 0 0),(5,.int .i64 x1)],[],[.arr false z2 (.r3 l3),.box true [.int .i64 x4,.sl 0 none]]⟩
theorem qm9 (k:Nat)(a0:Int)(a1z:Bool)(a1:L3)(b:Int):go (k+1) spec_LeafAt [.agg [.int .i64 a0,.arr false a1z (.r3 a1)],.int .i64 b]=
 lp k spec_LeafAt [] [] 2 k (q0h b 0 a1z a1 a0):=by kernel_rfl
theorem qsk (k n:Nat)(fu:FU)(x0 x1:Int)(z2:Bool)(l3:L3)(x4:Int):lp k spec_LeafAt [] fu 2 (n+1) (q0h x0 x1 z2 l3 x4)=
 cond (decide (x1<nI (List.length l3)))
 ((go k spec_MeshOk [.agg [.int .i64 x4,.arr false z2 (.r3 l3)]]).bind fun r0=>
 cond (bit (nth r0 0))
 (cond (decide (0≤x1)&&decide (x1<nI (List.length l3)))
 ((go k spec_StartOf [.agg [.int .i64 (Prod.fst (List.getD l3 (Int.toNat x1) zz3)),.int .i64 (Prod.fst (Prod.snd (List.getD l3 (Int.toNat x1) zz3))),.int .i64 (Prod.snd (Prod.snd (List.getD l3 (Int.toNat x1) zz3)))]]).bind fun r1=>
 cond (decide (D.toInt (nth r1 0)≤x0))
 (cond (decide (0≤x1)&&decide (x1<nI (List.length l3)))
 ((go k spec_l04End [.agg [.int .i64 (Prod.fst (List.getD l3 (Int.toNat x1) zz3)),.int .i64 (Prod.fst (Prod.snd (List.getD l3 (Int.toNat x1) zz3))),.int .i64 (Prod.snd (Prod.snd (List.getD l3 (Int.toNat x1) zz3)))]]).bind fun r2=>
 cond (decide (x0<D.toInt (nth r2 0)))
 (some [.int .i64 x1])
 (lp k spec_LeafAt [] fu 2 n (q0h x0 (IntKind.wrap .i64 (x1+1)) z2 l3 x4)))
 none)
 (lp k spec_LeafAt [] fu 2 n (q0h x0 (IntKind.wrap .i64 (x1+1)) z2 l3 x4)))
 none)
 (some [.int .i64 ((-1:Int))]))
 (some [.int .i64 ((-1:Int))]):=by kernel_rfl

end Go.Proofs.YtjfjniebmdafeaaGreatDoor
end
section
namespace Go.Proofs.YtjfjniebmdafeaaGreatDoor
open Go.Ev
abbrev cst (x:Cell):Int:=q18 x.1 x.2.1 x.2.2
def qta (pos:Int)(l:List Cell):Nat→Nat→Int
  | 0,_=> -1
  | n+1,i=>cond (decide (cst (l.getD i zz3)≤pos)&&decide (pos<cst (l.getD i zz3)+q33 (l.getD i zz3).2.1)) (i:Int) (qta pos l n (i+1))
theorem qtb (pos:Int)(l:List Cell): ∀ (n i:Nat),-1≤qta pos l n i∧qta pos l n i<((i+n:Nat):Int)∧(0≤qta pos l n i→(i:Int)≤qta pos l n i)
  | 0,i=>by simp [qta]; omega
  | n+1,i=>by
    have:=qtb pos l n (i+1)
    unfold qta
    cases (decide (cst (l.getD i zz3)≤pos)&&decide (pos<cst (l.getD i zz3)+q33 (l.getD i zz3).2.1))
    · simp only [qii]; omega
    · simp only [qik]; omega
def qs8 (r:Int)(l:List Cell)(pos:Int):Int:=cond (qv6 r 0 l) (qta pos l l.length 0) (-1)
theorem qs9 (r:Int)(l:List Cell)(pos:Int): -1≤qs8 r l pos∧qs8 r l pos<l.length:=by
  unfold qs8
  cases qv6 r 0 l
  · simp; omega
  · have:=qtb pos l l.length 0; simp only [qik]; omega
theorem qbt (k:Nat)(hk:2000000≤k)(a b c pos:Int):go (k+6) impl_LeafAt_1 [.agg [.int .i64 a,.int .i64 b,.int .i64 c],.ptr false [.int .i64 pos]]=some [.bool (decide (q18 a b c≤pos)&&decide (pos<q18 a b c+q33 b))]:=by
  rw [qjp]
  simp (disch:=omega) only [wk,bit,nI,qcu,qdg,qim]
theorem qt9 (k:Nat)(hk:2000000≤k)(fu:List (Nat×Nat))(z:Bool)(l:List Cell)(pos:Int)(hl:(l.length:Int)≤1048576): ∀ (n i:Nat),i≤l.length→l.length - i<n→
    lp (k+6) slices_IndexFunc_impl_Id_impl_Id [] fu 2 (n) (qz9 (l.length:Int) (i:Int) z l pos)=some [.int .i64 (qta pos l (l.length - i) i)]
  | 0,i,hi,hn=>by omega
  | n+1,i,hi,hn=>by
    rw [qsc]
    by_cases h:i<l.length
    · have e:=qt9 k hk fu z l pos hl n (i+1) (by omega) (by omega)
      rw [show l.length - i=(l.length - (i+1))+1 by omega,qta]
      simp (disch:=omega) only [wk,bit,nI,e,qbt,cst]
      cases (decide (q18 (l.getD i zz3).1 (l.getD i zz3).2.1 (l.getD i zz3).2.2≤pos)&&decide (pos<q18 (l.getD i zz3).1 (l.getD i zz3).2.1 (l.getD i zz3).2.2+q33 (l.getD i zz3).2.1))<;>rfl
    · simp (disch:=omega) only [wk,bit,nI]
      rw [show l.length - i=0 by omega]; rfl
theorem qce (k:Nat)(hk:2000000≤k)(a0:Int)(a1z:Bool)(a1:List (Int×Int×Int))(b:Int)(hl:(a1.length:Int)≤1048576):go (k+8) impl_LeafAt [(.agg [(.int .i64 (a0)),(.arr false (a1z) (.r3 (a1)))]),(.int .i64 (b))]=some [.int .i64 (qs8 a0 a1 b)]:=by
  rw [qjo]
  simp (disch:=omega) only [wk,bit,nI,qch]
  unfold qs8
  cases qv6 a0 0 a1
  · rfl
  rw [Bool.not_true,qii,qmq]
  have e:=qt9 k hk [] a1z a1 b hl (k+6) 0 (by omega) (by omega)
  rw [show ((0:Nat):Int)=0 from rfl] at e
  simp (disch:=omega) only [wk,bit,nI,e]
  rfl
theorem qva (k:Nat)(hk:2000000≤k)(fu:List (Nat×Nat))(z:Bool)(r:Int)(l:List Cell)(pos:Int)(hl:(l.length:Int)≤1048576)(hm:qv6 r 0 l=true): ∀ (n i:Nat),i≤l.length→l.length - i<n→
    lp (k+5) spec_LeafAt [] fu 2 (n) (q0h pos (i:Int) z l r)=some [.int .i64 (qta pos l (l.length - i) i)]
  | 0,i,hi,hn=>by omega
  | n+1,i,hi,hn=>by
    rw [qsk]
    by_cases h:i<l.length
    · have e:=qva k hk fu z r l pos hl hm n (i+1) (by omega) (by omega)
      rw [show l.length - i=(l.length - (i+1))+1 by omega,qta]
      simp (disch:=omega) only [wk,bit,nI,e,qf4,qgd,qgn,hm,cst]
      cases decide (q18 (l.getD i zz3).1 (l.getD i zz3).2.1 (l.getD i zz3).2.2≤pos)<;>cases decide (pos<q18 (l.getD i zz3).1 (l.getD i zz3).2.1 (l.getD i zz3).2.2+q33 (l.getD i zz3).2.1)<;>rfl
    · simp (disch:=omega) only [wk,bit,nI]
      rw [show l.length - i=0 by omega]; rfl
theorem qf0 (k:Nat)(hk:2000000≤k)(a0:Int)(a1z:Bool)(a1:List (Int×Int×Int))(b:Int)(hl:(a1.length:Int)≤1048576):go (k+6) spec_LeafAt [(.agg [(.int .i64 (a0)),(.arr false (a1z) (.r3 (a1)))]),(.int .i64 (b))]=some [.int .i64 (qs8 a0 a1 b)]:=by
  rw [qm9]
  unfold qs8
  cases hm:qv6 a0 0 a1
  · rw [show k+5=(k+5 - 1)+1 by omega]
    rw [show lp (k+5 - 1+1)=lp (k+5) by rw [show k+5 - 1+1=k+5 by omega],qsk]
    by_cases h0:0<a1.length
    · simp (disch:=omega) only [wk,bit,nI,qf4,hm]
    · simp (disch:=omega) only [wk,bit,nI]
  exact qva k hk [] a1z a0 a1 b hl hm _ 0 (by omega) (by omega)
end Go.Proofs.YtjfjniebmdafeaaGreatDoor
end
section
namespace Go.Proofs.YtjfjniebmdafeaaGreatDoor
open Go.Ev
set_option maxRecDepth 20000
theorem qg9 (k:Nat)(hk:2000000≤k)(a0:Int)(a1z:Bool)(a1:List (Int×Int×Int))(a2z:Bool)(a2:List Int)(a3z:Bool)(a3:List Int)(a4z:Bool)(a4:List Int)(a5:Int)(a6:Int)(a7:Int)(a8:Int)(a9:Int)(a10:Int)(a11:Int)(a12:Int)(a13:Int)(a14:Int)(a15:Int)(a16:Int)(a17:Int)(a18:Int)(a19:Int)(a20:Int)(h1:(a1.length:Int)≤1048576)(h2:(a2.length:Int)≤1048576)(h3:(a3.length:Int)≤1048576)(h4:(a4.length:Int)≤1048576):go (k+3) spec_l36Copy [(.agg [(.int .i64 (a0)),(.arr false (a1z) (.r3 (a1))),(.arr false (a2z) (.ints .i64 (a2))),(.arr false (a3z) (.ints .i64 (a3))),(.arr false (a4z) (.ints .i64 (a4))),(.int .i64 (a5)),(.int .i64 (a6)),(.int .i64 (a7)),(.int .i64 (a8)),(.int .i64 (a9)),(.int .i64 (a10)),(.int .i64 (a11)),(.int .i64 (a12)),(.int .i64 (a13)),(.int .i64 (a14)),(.int .i64 (a15)),(.int .i64 (a16)),(.int .i64 (a17)),(.int .i64 (a18)),(.int .i64 (a19)),(.int .i64 (a20))])]=some [.agg [.int .i64 (a0),.arr true false (.r3 (a1)),.arr true false (.ints .i64 (a2)),.arr true false (.ints .i64 (a3)),.arr true false (.ints .i64 (a4)),.int .i64 (a5),.int .i64 (a6),.int .i64 (a7),.int .i64 (a8),.int .i64 (a9),.int .i64 (a10),.int .i64 (a11),.int .i64 (a12),.int .i64 (a13),.int .i64 (a14),.int .i64 (a15),.int .i64 (a16),.int .i64 (a17),.int .i64 (a18),.int .i64 (a19),.int .i64 (a20)]]:=by
  rw [qol]
  simp (disch:=omega) only [wk,bit,nI,qgu]
theorem qdc (k:Nat)(hk:2000000≤k)(a0:Int)(a1:List Cell)(a2 a3 a4:List Int)(a5 a6 a7 a8 a9 a10 a11 a12 a13 a14 a15 a16 a17 a18 a19 a20:Int)(h1:(a1.length:Int)≤1048576)(h2:(a2.length:Int)≤1048576)(h3:(a3.length:Int)≤1048576)(h4:(a4.length:Int)≤1048576):go (k+4) impl_copyWorld [.agg [.int .i64 (a0),.arr false false (.r3 (a1)),.arr false false (.ints .i64 (a2)),.arr false false (.ints .i64 (a3)),.arr false false (.ints .i64 (a4)),.int .i64 (a5),.int .i64 (a6),.int .i64 (a7),.int .i64 (a8),.int .i64 (a9),.int .i64 (a10),.int .i64 (a11),.int .i64 (a12),.int .i64 (a13),.int .i64 (a14),.int .i64 (a15),.int .i64 (a16),.int .i64 (a17),.int .i64 (a18),.int .i64 (a19),.int .i64 (a20)]]=some [.agg [.int .i64 (a0),.arr true false (.r3 (a1)),.arr true false (.ints .i64 (a2)),.arr true false (.ints .i64 (a3)),.arr true false (.ints .i64 (a4)),.int .i64 (a5),.int .i64 (a6),.int .i64 (a7),.int .i64 (a8),.int .i64 (a9),.int .i64 (a10),.int .i64 (a11),.int .i64 (a12),.int .i64 (a13),.int .i64 (a14),.int .i64 (a15),.int .i64 (a16),.int .i64 (a17),.int .i64 (a18),.int .i64 (a19),.int .i64 (a20)]]:=by
  rw [qla]
  simp (disch:=omega) only [wk,bit,nI,qdb]
def qi4 (a0:Int)(a1:List Cell)(a2 a3 a4:List Int)(a5 a6 a7 a8 a9 a10 a11 a12 a13 a14 a15 a16 a17 a18 a19 a20 pos c d:Int):Bool:=
  q39 a0 a1 a2 a3 a4 a5 a6 a7 a8 a9 a10 a11 a12 a13 a14 a15 a16 a17 a18 a19 a20&&(inR c 1 10000&&(inR d 0 1000&&(decide (isum a2+c≤10000000)&&decide (0≤qs8 a0 a1 pos))))
theorem q4a {a0:Int}{a1:List Cell}{a2 a3 a4:List Int}{a5 a6 a7 a8 a9 a10 a11 a12 a13 a14 a15 a16 a17 a18 a19 a20:Int}(h:q39 a0 a1 a2 a3 a4 a5 a6 a7 a8 a9 a10 a11 a12 a13 a14 a15 a16 a17 a18 a19 a20=true):
    StF a0 a1 a2 a3 a4∧(0≤a15∧a15≤1000000000000000)∧(0≤a16∧a16≤1000000000000000)∧(0≤a17∧a17≤1000000000000000)∧(0≤a18∧a18≤1000000000000000):=by
  simp only [q39,qtd,Bool.and_eq_true,qp3] at h
  exact ⟨stF.1 h.1,h.2.2.2.1.1,h.2.2.2.1.2.1,h.2.2.2.1.2.2.1,h.2.2.2.1.2.2.2⟩
theorem qwi {c d:Int}(h1:1≤c)(h2:c≤10000)(h3:0≤d)(h4:d≤1000):0≤c*d∧c*d≤10000000:=by
  refine ⟨Int.mul_nonneg (by omega) h3,?_⟩
  calc c*d≤10000*d:=Int.mul_le_mul_of_nonneg_right h2 h3
    _≤10000*1000:=Int.mul_le_mul_of_nonneg_left h4 (by omega)
theorem qfp (k:Nat)(hk:2000000≤k)(a0:Int)(a1z:Bool)(a1:List (Int×Int×Int))(a2z:Bool)(a2:List Int)(a3z:Bool)(a3:List Int)(a4z:Bool)(a4:List Int)(a5:Int)(a6:Int)(a7:Int)(a8:Int)(a9:Int)(a10:Int)(a11:Int)(a12:Int)(a13:Int)(a14:Int)(a15:Int)(a16:Int)(a17:Int)(a18:Int)(a19:Int)(a20:Int)(b:Int)(c:Int)(d:Int)(h1:(a1.length:Int)≤1048576)(h2:(a2.length:Int)≤1048576)(h3:(a3.length:Int)≤1048576)(h4:(a4.length:Int)≤1048576):
    go (k+9) spec_Drop [(.agg [(.int .i64 (a0)),(.arr false (a1z) (.r3 (a1))),(.arr false (a2z) (.ints .i64 (a2))),(.arr false (a3z) (.ints .i64 (a3))),(.arr false (a4z) (.ints .i64 (a4))),(.int .i64 (a5)),(.int .i64 (a6)),(.int .i64 (a7)),(.int .i64 (a8)),(.int .i64 (a9)),(.int .i64 (a10)),(.int .i64 (a11)),(.int .i64 (a12)),(.int .i64 (a13)),(.int .i64 (a14)),(.int .i64 (a15)),(.int .i64 (a16)),(.int .i64 (a17)),(.int .i64 (a18)),(.int .i64 (a19)),(.int .i64 (a20))]),(.int .i64 (b)),(.int .i64 (c)),(.int .i64 (d))]=cond (qi4 a0 a1 a2 a3 a4 a5 a6 a7 a8 a9 a10 a11 a12 a13 a14 a15 a16 a17 a18 a19 a20 b c d) (some [.agg [.int .i64 (a0),.arr true false (.r3 (a1)),.arr true false (.ints .i64 (a2.set (qs8 a0 a1 b).toNat (a2.getD (qs8 a0 a1 b).toNat 0+c))),.arr true false (.ints .i64 (a3.set (qs8 a0 a1 b).toNat (a3.getD (qs8 a0 a1 b).toNat 0+c*d))),.arr true false (.ints .i64 (a4)),.int .i64 (a5),.int .i64 (a6),.int .i64 (a7),.int .i64 (a8),.int .i64 (a9),.int .i64 (a10),.int .i64 (a11),.int .i64 (a12),.int .i64 (a13),.int .i64 (a14),.int .i64 (a15+c),.int .i64 (a16),.int .i64 (a17+c*d),.int .i64 (a18),.int .i64 (a19),.int .i64 (a20)],.bool true]) (some [.agg [.int .i64 (a0),.arr true false (.r3 (a1)),.arr true false (.ints .i64 (a2)),.arr true false (.ints .i64 (a3)),.arr true false (.ints .i64 (a4)),.int .i64 (a5),.int .i64 (a6),.int .i64 (a7),.int .i64 (a8),.int .i64 (a9),.int .i64 (a10),.int .i64 (a11),.int .i64 (a12),.int .i64 (a13),.int .i64 (a14),.int .i64 (a15),.int .i64 (a16),.int .i64 (a17),.int .i64 (a18),.int .i64 (a19),.int .i64 (a20)],.bool false]):=by
  rw [qm0]
  simp (disch:=omega) only [wk,bit,nI,qg9,qgh,qgl]
  unfold qi4
  cases g1:q39 a0 a1 a2 a3 a4 a5 a6 a7 a8 a9 a10 a11 a12 a13 a14 a15 a16 a17 a18 a19 a20
  · simp only [Bool.not_false,qik,qii,Bool.false_and]
  cases g2:inR c 1 10000
  · simp only [Bool.not_false,Bool.not_true,qik,qii,Bool.false_and,Bool.true_and]
  cases g3:inR d 0 1000
  · simp only [Bool.not_false,Bool.not_true,qik,qii,Bool.false_and,Bool.true_and]
  obtain ⟨F,b1,b2,b3,b4⟩:=q4a g1
  have:=F.len; have:=F.ml; have:=F.tl; have:=F.bl; have:=F.rr; have sm:=F.msum
  have i2:=qp3.1 g2; have i3:=qp3.1 g3
  have mm:=qwi i2.1 i2.2 i3.1 i3.2
  have lf:=qs9 a0 a1 b
  simp only [Bool.not_true,qii,Bool.true_and]
  rw [qgv _ (by omega) _ _ (by omega) F.mmem]
  by_cases q:isum a2+c≤10000000
  case neg=>simp (disch:=omega) only [wk,bit,nI]
  by_cases q2:0≤qs8 a0 a1 b
  case neg=>simp (disch:=omega) only [wk,bit,nI,qf0]
  have fa:=F.at (qs8 a0 a1 b).toNat
  obtain ⟨i,hi⟩: ∃ i:Nat,qs8 a0 a1 b=(i:Int):=⟨(qs8 a0 a1 b).toNat,by omega⟩
  rw [hi] at fa
  rw [Int.toNat_natCast] at fa
  simp (disch:=omega) only [wk,bit,nI,qf0,hi,qnc,Int.add_zero]
theorem qb3 (k:Nat)(hk:2000000≤k)(a0:Int)(a1:List Cell)(a2 a3 a4:List Int)(a5 a6 a7 a8 a9 a10 a11 a12 a13 a14 a15 a16 a17 a18 a19 a20 b c d:Int)(h1:(a1.length:Int)≤1048576)(h2:(a2.length:Int)≤1048576)(h3:(a3.length:Int)≤1048576)(h4:(a4.length:Int)≤1048576):
    go (k+10) impl_Drop [.agg [.int .i64 (a0),.arr false false (.r3 (a1)),.arr false false (.ints .i64 (a2)),.arr false false (.ints .i64 (a3)),.arr false false (.ints .i64 (a4)),.int .i64 (a5),.int .i64 (a6),.int .i64 (a7),.int .i64 (a8),.int .i64 (a9),.int .i64 (a10),.int .i64 (a11),.int .i64 (a12),.int .i64 (a13),.int .i64 (a14),.int .i64 (a15),.int .i64 (a16),.int .i64 (a17),.int .i64 (a18),.int .i64 (a19),.int .i64 (a20)],.int .i64 b,.int .i64 c,.int .i64 d]=cond (qi4 a0 a1 a2 a3 a4 a5 a6 a7 a8 a9 a10 a11 a12 a13 a14 a15 a16 a17 a18 a19 a20 b c d) (some [.agg [.int .i64 (a0),.arr true false (.r3 (a1)),.arr true false (.ints .i64 (a2.set (qs8 a0 a1 b).toNat (a2.getD (qs8 a0 a1 b).toNat 0+c))),.arr true false (.ints .i64 (a3.set (qs8 a0 a1 b).toNat (a3.getD (qs8 a0 a1 b).toNat 0+c*d))),.arr true false (.ints .i64 (a4)),.int .i64 (a5),.int .i64 (a6),.int .i64 (a7),.int .i64 (a8),.int .i64 (a9),.int .i64 (a10),.int .i64 (a11),.int .i64 (a12),.int .i64 (a13),.int .i64 (a14),.int .i64 (a15+c),.int .i64 (a16),.int .i64 (a17+c*d),.int .i64 (a18),.int .i64 (a19),.int .i64 (a20)],.bool true]) (some [.agg [.int .i64 (a0),.arr true false (.r3 (a1)),.arr true false (.ints .i64 (a2)),.arr true false (.ints .i64 (a3)),.arr true false (.ints .i64 (a4)),.int .i64 (a5),.int .i64 (a6),.int .i64 (a7),.int .i64 (a8),.int .i64 (a9),.int .i64 (a10),.int .i64 (a11),.int .i64 (a12),.int .i64 (a13),.int .i64 (a14),.int .i64 (a15),.int .i64 (a16),.int .i64 (a17),.int .i64 (a18),.int .i64 (a19),.int .i64 (a20)],.bool false]):=by
  rw [qjf]
  simp (disch:=omega) only [wk,bit,nI,qdc,qc1,qed,qce]
  unfold qi4
  have lf:=qs9 a0 a1 b
  cases g1:q39 a0 a1 a2 a3 a4 a5 a6 a7 a8 a9 a10 a11 a12 a13 a14 a15 a16 a17 a18 a19 a20
  · simp only [Bool.not_false,qik,qii,Bool.false_and]
  by_cases q2:0≤qs8 a0 a1 b
  case neg=>simp (disch:=omega) only [wk,bit,nI]
  cases g2:inR c 1 10000
  · simp (disch:=omega) only [wk,bit,nI]
  cases g3:inR d 0 1000
  · simp (disch:=omega) only [wk,bit,nI]
  obtain ⟨F,b1,b2,b3,b4⟩:=q4a g1
  have:=F.len; have:=F.ml; have:=F.tl; have:=F.bl; have:=F.rr; have sm:=F.msum
  have i2:=qp3.1 g2; have i3:=qp3.1 g3
  have mm:=qwi i2.1 i2.2 i3.1 i3.2
  simp (disch:=omega) only [wk,bit,nI]
  rw [qd9 _ (by omega) _ _ (by omega) F.mmem]
  by_cases q:isum a2+c≤10000000
  case neg=>simp (disch:=omega) only [wk,bit,nI]
  have fa:=F.at (qs8 a0 a1 b).toNat
  obtain ⟨i,hi⟩: ∃ i:Nat,qs8 a0 a1 b=(i:Int):=⟨(qs8 a0 a1 b).toNat,by omega⟩
  rw [hi] at fa
  rw [Int.toNat_natCast] at fa
  simp (disch:=omega) only [wk,bit,nI,hi]
end Go.Proofs.YtjfjniebmdafeaaGreatDoor
end
section
namespace Go.Proofs.YtjfjniebmdafeaaGreatDoor
open Go.Ev
set_option maxRecDepth 20000
structure Wd where
  r:Int
  s:S3
  b:List Int
  p:Pl
  k:Int
  ld:Ld
  f:Int
  g:Int
abbrev wdR (w:Wd):D:=.agg [.int .i64 (w.r),.arr false false (.r3 (w.s.1)),.arr false false (.ints .i64 (w.s.2.1)),.arr false false (.ints .i64 (w.s.2.2)),.arr false false (.ints .i64 (w.b)),.int .i64 (w.p.bi),.int .i64 (w.p.bs),.int .i64 (w.p.bo),.int .i64 (w.p.rain),.int .i64 (w.p.loss),.int .i64 (w.p.dec),.int .i64 (w.p.high),.int .i64 (w.p.low),.int .i64 (w.p.every),.int .i64 (w.k),.int .i64 (w.ld.mi),.int .i64 (w.ld.mo),.int .i64 (w.ld.ti),.int .i64 (w.ld.ou),.int .i64 (w.f),.int .i64 (w.g)]
abbrev wdO (w:Wd):D:=.agg [.int .i64 (w.r),.arr true false (.r3 (w.s.1)),.arr true false (.ints .i64 (w.s.2.1)),.arr true false (.ints .i64 (w.s.2.2)),.arr true false (.ints .i64 (w.b)),.int .i64 (w.p.bi),.int .i64 (w.p.bs),.int .i64 (w.p.bo),.int .i64 (w.p.rain),.int .i64 (w.p.loss),.int .i64 (w.p.dec),.int .i64 (w.p.high),.int .i64 (w.p.low),.int .i64 (w.p.every),.int .i64 (w.k),.int .i64 (w.ld.mi),.int .i64 (w.ld.mo),.int .i64 (w.ld.ti),.int .i64 (w.ld.ou),.int .i64 (w.f),.int .i64 (w.g)]
def wdOk (w:Wd):Bool:=q39 w.r w.s.1 w.s.2.1 w.s.2.2 w.b w.p.bi w.p.bs w.p.bo w.p.rain w.p.loss w.p.dec w.p.high w.p.low w.p.every w.k w.ld.mi w.ld.mo w.ld.ti w.ld.ou w.f w.g
structure Sml (w:Wd):Prop where
  h1:(w.s.1.length:Int)≤1048576
  h2:(w.s.2.1.length:Int)≤1048576
  h3:(w.s.2.2.length:Int)≤1048576
  h4:(w.b.length:Int)≤1048576
structure LdB (l:Ld) (B:Int):Prop where
  mi:0≤l.mi∧l.mi≤B
  mo:0≤l.mo∧l.mo≤B
  ti:0≤l.ti∧l.ti≤B
  ou:0≤l.ou∧l.ou≤B
theorem qxm {p:Pl}(h:qxn p.bi p.bs p.bo p.rain p.loss p.dec p.high p.low p.every=true):PlF p:=by
  simp only [qxn,qbq,Bool.and_eq_true,qp3] at h
  exact ⟨by omega,by omega,by omega,by omega,by omega,by omega,by omega,by omega,by omega⟩
structure WdF (w:Wd):Prop where
  F:StF w.r w.s.1 w.s.2.1 w.s.2.2 w.b
  P:PlF w.p
  k:0≤w.k∧w.k≤100000
  L:LdB w.ld 1000000000000000
  f:isum w.s.2.1 - w.ld.mi+w.ld.mo=w.f
  g:isum w.s.2.2 - w.ld.ti+w.ld.ou=w.g
theorem wdF {w:Wd}(h:wdOk w=true):WdF w:=by
  unfold wdOk q39 qtd at h
  simp only [Bool.and_eq_true,decide_eq_true_eq] at h
  obtain ⟨h1,h2,h3,⟨h4,h5,h6,h7⟩,h8,h9⟩:=h
  exact ⟨stF.1 h1,qxm h2,qp3.1 h3,⟨qp3.1 h4,qp3.1 h5,qp3.1 h6,qp3.1 h7⟩,h8,h9⟩
theorem StF.sml {w:Wd}(F:StF w.r w.s.1 w.s.2.1 w.s.2.2 w.b):Sml w:=by
  have:=F.len; have:=F.ml; have:=F.tl; have:=F.bl; have:=F.rr
  exact ⟨by omega,by omega,by omega,by omega⟩
def Wd.next (w:Wd):Wd:= { w with s:=(mac w.p w.b w.k w.s).1,k:=w.k+1,ld:=w.ld.add (mac w.p w.b w.k w.s).2 }
def advN:Nat→Wd→Wd
  | 0,w=>w
  | n+1,w=>advN n w.next
structure Adv (w:Wd) (i:Nat):Prop where
  F:StF w.r w.s.1 w.s.2.1 w.s.2.2 w.b
  P:PlF w.p
  k:0≤w.k∧w.k≤100000+i
  L:LdB w.ld (1000000000000000+40000000000*i)
theorem Adv.next {w:Wd}{i:Nat}(A:Adv w i):Adv w.next (i+1):=by
  have h:=qvs (s:=w.s) A.F A.P w.k
  have a:=A.k; have l:=A.L; have q:=h.2
  have l1:=l.mi; have l2:=l.mo; have l3:=l.ti; have l4:=l.ou
  have q1:=q.mi; have q2:=q.mo; have q3:=q.ti; have q4:=q.ou
  refine ⟨h.1,A.P,?_,⟨?_,?_,?_,?_⟩⟩
  · show 0≤w.k+1∧w.k+1≤_; omega
  · show 0≤w.ld.mi+_∧w.ld.mi+_≤_; omega
  · show 0≤w.ld.mo+_∧w.ld.mo+_≤_; omega
  · show 0≤w.ld.ti+_∧w.ld.ti+_≤_; omega
  · show 0≤w.ld.ou+_∧w.ld.ou+_≤_; omega
theorem qa2: ∀ (n:Nat)(w:Wd)(i:Nat),Adv w i→Adv (advN n w) (i+n)
  | 0,w,i,A=>A
  | n+1,w,i,A=>by have:=qa2 n w.next (i+1) A.next; rw [show i+1+n=i+(n+1) by omega] at this; exact this
theorem qdd (k:Nat)(hk:2000000≤k)(w:Wd)(h:Sml w):go (k+4) impl_copyWorld [wdR w]=some [wdO w]:=qdc k hk _ _ _ _ _ _ _ _ _ _ _ _ _ _ _ _ _ _ _ _ _ h.h1 h.h2 h.h3 h.h4
theorem qha (k:Nat)(hk:2000000≤k)(w:Wd)(h:Sml w):go (k+3) spec_l36Copy [wdR w]=some [wdO w]:=qg9 k hk _ _ _ _ _ _ _ _ _ _ _ _ _ _ _ _ _ _ _ _ _ _ _ _ _ h.h1 h.h2 h.h3 h.h4
theorem qc2 (k:Nat)(hk:2000000≤k)(w:Wd)(h:Sml w):go (k+9) impl_WorldOk [wdR w]=some [.bool (wdOk w)]:=qc1 k hk _ _ _ _ _ _ _ _ _ _ _ _ _ _ _ _ _ _ _ _ _ _ _ _ _ h.h1 h.h4
theorem qgi (k:Nat)(hk:2000000≤k)(w:Wd)(h:Sml w):go (k+8) spec_WorldOk [wdR w]=some [.bool (wdOk w)]:=qgh k hk _ _ _ _ _ _ _ _ _ _ _ _ _ _ _ _ _ _ _ _ _ _ _ _ _ h.h1 h.h4
set_option maxHeartbeats 1000000 in
theorem qt8 (k:Nat)(hk:2000000≤k)(fu:List (Nat×Nat))(c:Int)(hc:c≤100)(z2:Bool)(l3:List Cell)(z4:Bool)(l5:List Int)(z6:Bool)(l7:List Int)(z8:Bool)(l9:List Int)(x10 x11 x12 x13 x14 x15 x16 x17 x18 x19 x20 x21 x22 x23 x24 x25 x26:Int): ∀ (N n i:Nat)(w:Wd),(i:Int)+n=c→n<N→Adv w i→
    lp (k+11) impl_Advance [] fu 5 (N) (qy8 c (i:Int) z2 l3 z4 l5 z6 l7 z8 l9 x10 x11 x12 x13 x14 x15 x16 x17 x18 x19 x20 x21 x22 x23 x24 x25 x26 false w.s.1 false w.s.2.1 false w.s.2.2 false w.b w.r w.p.bi w.p.bs w.p.bo w.p.rain w.p.loss w.p.dec w.p.high w.p.low w.p.every w.k w.ld.mi w.ld.mo w.ld.ti w.ld.ou w.f w.g)=some [wdO (advN n w),.bool true]
  | 0,n,i,w,hi,hN,A=>by omega
  | N+1,0,i,w,hi,hN,A=>by
    rw [qrb]
    simp (disch:=omega) only [wk,bit,nI]; rfl
  | N+1,n+1,i,w,hi,hN,A=>by
    rw [qrb]
    have a:=A.k; have l:=A.L
    have h:=(qvs (s:=w.s) A.F A.P w.k).2
    have l1:=l.mi; have l2:=l.mo; have l3' :=l.ti; have l4:=l.ou
    have q1:=h.mi; have q2:=h.mo; have q3:=h.ti; have q4:=h.ou
    have eM:=qd4 k (by omega) w.r w.s w.b A.F w.p A.P w.k (by omega)
    have eL:=qcg (k+10) w.ld (mac w.p w.b w.k w.s).2 (by omega) (by omega) (by omega) (by omega)
    have IH:=qt8 k hk fu c hc z2 l3 z4 l5 z6 l7 z8 l9 x10 x11 x12 x13 x14 x15 x16 x17 x18 x19 x20 x21 x22 x23 x24 x25 x26 N n (i+1) w.next (by omega) (by omega) A.next
    rw [show advN (n+1) w=advN n w.next from rfl]
    simp only [Wd.next] at IH ⊢
    simp (disch:=omega) only [wk,bit,nI,eM,eL,qx1,qx2,qx3,qx4,qx5,IH]
set_option maxHeartbeats 1000000 in
theorem qu9 (k:Nat)(hk:2000000≤k)(fu:List (Nat×Nat))(c:Int)(hc:c≤100)(z2:Bool)(l3:List Cell)(z4:Bool)(l5:List Int)(z6:Bool)(l7:List Int)(z8:Bool)(l9:List Int)(x10 x11 x12 x13 x14 x15 x16 x17 x18 x19 x20 x21 x22 x23 x24 x25 x26:Int): ∀ (N n i:Nat)(w:Wd),(i:Int)+n=c→n<N→Adv w i→
    lp (k+8) spec_Advance [] fu 5 (N) (q0c c (i:Int) z2 l3 z4 l5 z6 l7 z8 l9 x10 x11 x12 x13 x14 x15 x16 x17 x18 x19 x20 x21 x22 x23 x24 x25 x26 false w.s.1 false w.s.2.1 false w.s.2.2 false w.b w.r w.p.bi w.p.bs w.p.bo w.p.rain w.p.loss w.p.dec w.p.high w.p.low w.p.every w.k w.ld.mi w.ld.mo w.ld.ti w.ld.ou w.f w.g)=some [wdO (advN n w),.bool true]
  | 0,n,i,w,hi,hN,A=>by omega
  | N+1,0,i,w,hi,hN,A=>by
    rw [qsf]
    have eC:=qha (k+5) (by omega) w A.F.sml
    simp (disch:=omega) only [wk,bit,nI,eC]
    rfl
  | N+1,n+1,i,w,hi,hN,A=>by
    rw [qsf]
    have a:=A.k; have l:=A.L
    have h:=(qvs (s:=w.s) A.F A.P w.k).2
    have l1:=l.mi; have l2:=l.mo; have l3' :=l.ti; have l4:=l.ou
    have q1:=h.mi; have q2:=h.mo; have q3:=h.ti; have q4:=h.ou
    have eM:=qg6 k (by omega) w.r w.s w.b A.F w.p A.P w.k (by omega)
    have eL:=qf3 (k+7) w.ld (mac w.p w.b w.k w.s).2 (by omega) (by omega) (by omega) (by omega)
    have IH:=qu9 k hk fu c hc z2 l3 z4 l5 z6 l7 z8 l9 x10 x11 x12 x13 x14 x15 x16 x17 x18 x19 x20 x21 x22 x23 x24 x25 x26 N n (i+1) w.next (by omega) (by omega) A.next
    rw [show advN (n+1) w=advN n w.next from rfl]
    simp only [Wd.next] at IH ⊢
    simp (disch:=omega) only [wk,bit,nI,eM,eL,IH]
def qa3 (w:Wd)(n:Int):Bool:=wdOk w&&inR n 0 100
def adv (w:Wd)(n:Int):Wd:=cond (qa3 w n) (advN n.toNat w) w
theorem WdF.adv {w:Wd}(h:WdF w):Adv w 0:=⟨h.F,h.P,by have:=h.k; omega,⟨by have:=h.L.mi; omega,by have:=h.L.mo; omega,by have:=h.L.ti; omega,by have:=h.L.ou; omega⟩⟩
theorem qbx (k:Nat)(hk:2000000≤k)(w:Wd)(n:Int)(h:Sml w):go (k+12) impl_Advance [wdR w,.int .i64 n]=some [wdO (adv w n),.bool (qa3 w n)]:=by
  rw [qi9]
  have eC:=qdd (k+7) (by omega) w h
  have eO:=qc2 (k+2) (by omega) w h
  unfold adv qa3
  cases g:wdOk w
  · rw [g] at eO
    simp (disch:=omega) only [wk,bit,nI,eC,eO]
  rw [g] at eO
  cases g2:inR n 0 100
  · simp (disch:=omega) only [wk,bit,nI,eC,eO,qed,g2]
  have b:=qp3.1 g2
  have e:=qt8 k hk [] n b.2 true [] true [] true [] true [] 0 0 0 0 0 0 0 0 0 0 0 0 0 0 0 0 0 (k+11) n.toNat 0 w (by omega) (by omega) (wdF g).adv
  rw [show ((0:Nat):Int)=0 from rfl] at e
  simp (disch:=omega) only [wk,bit,nI,eC,eO,qed,g2]
  exact e
theorem qfj (k:Nat)(hk:2000000≤k)(w:Wd)(n:Int)(h:Sml w):go (k+9) spec_Advance [wdR w,.int .i64 n]=some [wdO (adv w n),.bool (qa3 w n)]:=by
  rw [qmu]
  have eC:=qha (k+5) (by omega) w h
  have eO:=qgi k (by omega) w h
  unfold adv qa3
  cases g:wdOk w
  · rw [g] at eO
    simp (disch:=omega) only [wk,bit,nI,eC,eO]
  rw [g] at eO
  cases g2:inR n 0 100
  · simp (disch:=omega) only [wk,bit,nI,eC,eO,qgl,g2]
  have b:=qp3.1 g2
  have e:=qu9 k hk [] n b.2 true [] true [] true [] true [] 0 0 0 0 0 0 0 0 0 0 0 0 0 0 0 0 0 (k+8) n.toNat 0 w (by omega) (by omega) (wdF g).adv
  rw [show ((0:Nat):Int)=0 from rfl] at e
  simp (disch:=omega) only [wk,bit,nI,eC,eO,qgl,g2]
  exact e
end Go.Proofs.YtjfjniebmdafeaaGreatDoor
end
section
namespace Go.Proofs.YtjfjniebmdafeaaGreatDoor
open Go.Ev
set_option maxRecDepth 20000
def sgl (c d:Int):Bool:=decide (c=0)&&decide (d=0)
def qat (a b c d:Int):Bool:=cond (decide (a=1)) (sgl c d&&inR b 1 20) (cond (decide (a=2)) (sgl c d&&inR b 0 10000) (cond (decide (a=3)) (sgl c d&&inR b 0 10000) (cond (decide (a=4)) (qbq b c d) (cond (decide (a=5)) (sgl c d&&inR b 0 1000) (cond (decide (a=6)) (inR b 0 1000000&&(inR c 0 1000000&&inR d 0 100)) (cond (decide (a=7)) (inR b 0 127&&(inR c 1 10000&&inR d 0 1000)) false))))))
set_option maxHeartbeats 2000000 in
theorem qbw (k:Nat)(hk:2000000≤k)(a0:Int)(a1:Int)(a2:Int)(a3:Int):go (k+3) impl_ActOk [(.agg [(.int .i64 (a0)),(.int .i64 (a1)),(.int .i64 (a2)),(.int .i64 (a3))])]=some [.bool (qat a0 a1 a2 a3)]:=by
  rw [qi8]
  unfold qat sgl
  by_cases hc:a2=0<;>by_cases hd:a3=0
  all_goals
    by_cases h1:a0=1
    · simp (disch:=omega) only [wk,bit,nI,qed]
    by_cases h2:a0=2
    · simp (disch:=omega) only [wk,bit,nI,qdq]
    by_cases h3:a0=3
    · simp (disch:=omega) only [wk,bit,nI,qdq]
    by_cases h4:a0=4
    · simp (disch:=omega) only [wk,bit,nI,qby]
    by_cases h5:a0=5
    · simp (disch:=omega) only [wk,bit,nI,qdr]
    by_cases h6:a0=6
    · simp (disch:=omega) only [wk,bit,nI,qed,qim]
    by_cases h7:a0=7
    · simp (disch:=omega) only [wk,bit,nI,qed,qim]
    simp (disch:=omega) only [wk,bit,nI]
set_option maxHeartbeats 2000000 in
theorem qfi (k:Nat)(hk:2000000≤k)(a0:Int)(a1:Int)(a2:Int)(a3:Int):go (k+3) spec_ActOk [(.agg [(.int .i64 (a0)),(.int .i64 (a1)),(.int .i64 (a2)),(.int .i64 (a3))])]=some [.bool (qat a0 a1 a2 a3)]:=by
  rw [qmt]
  unfold qat sgl
  by_cases hc:a2=0<;>by_cases hd:a3=0
  all_goals
    by_cases h1:a0=1
    · simp (disch:=omega) only [wk,bit,nI,qom,qgl]
    by_cases h2:a0=2
    · simp (disch:=omega) only [wk,bit,nI,qom,qgl]
    by_cases h3:a0=3
    · simp (disch:=omega) only [wk,bit,nI,qom,qgl]
    by_cases h4:a0=4
    · simp (disch:=omega) only [wk,bit,nI,qom,qfk]
    by_cases h5:a0=5
    · simp (disch:=omega) only [wk,bit,nI,qom,qgl]
    by_cases h6:a0=6
    · simp (disch:=omega) only [wk,bit,nI,qom,qgl,qim]
    by_cases h7:a0=7
    · simp (disch:=omega) only [wk,bit,nI,qom,qgl,qim]
    simp (disch:=omega) only [wk,bit,nI,qom]
abbrev wdP (w:Wd):D:=.ptr true [.int .i64 w.r,.arr true false (.r3 w.s.1),.arr true false (.ints .i64 w.s.2.1),.arr true false (.ints .i64 w.s.2.2),.arr true false (.ints .i64 w.b),.int .i64 w.p.bi,.int .i64 w.p.bs,.int .i64 w.p.bo,.int .i64 w.p.rain,.int .i64 w.p.loss,.int .i64 w.p.dec,.int .i64 w.p.high,.int .i64 w.p.low,.int .i64 w.p.every,.int .i64 w.k,.int .i64 w.ld.mi,.int .i64 w.ld.mo,.int .i64 w.ld.ti,.int .i64 w.ld.ou,.int .i64 w.f,.int .i64 w.g]
def qi6 (w:Wd)(p m h:Int):Bool:=qi4 w.r w.s.1 w.s.2.1 w.s.2.2 w.b w.p.bi w.p.bs w.p.bo w.p.rain w.p.loss w.p.dec w.p.high w.p.low w.p.every w.k w.ld.mi w.ld.mo w.ld.ti w.ld.ou w.f w.g p m h
def drp1 (w:Wd)(p m h:Int):Wd:= { w with s:=(w.s.1,w.s.2.1.set (qs8 w.r w.s.1 p).toNat (w.s.2.1.getD (qs8 w.r w.s.1 p).toNat 0+m),w.s.2.2.set (qs8 w.r w.s.1 p).toNat (w.s.2.2.getD (qs8 w.r w.s.1 p).toNat 0+m*h)),ld:= { w.ld with mi:=w.ld.mi+m,ti:=w.ld.ti+m*h } }
def drp (w:Wd)(p m h:Int):Wd:=cond (qi6 w p m h) (drp1 w p m h) w
theorem qb4 (k:Nat)(hk:2000000≤k)(w:Wd)(p m h:Int)(S:Sml w):go (k+10) impl_Drop [wdR w,.int .i64 p,.int .i64 m,.int .i64 h]=some [wdO (drp w p m h),.bool (qi6 w p m h)]:=by
  have e:=qb3 k hk w.r w.s.1 w.s.2.1 w.s.2.2 w.b w.p.bi w.p.bs w.p.bo w.p.rain w.p.loss w.p.dec w.p.high w.p.low w.p.every w.k w.ld.mi w.ld.mo w.ld.ti w.ld.ou w.f w.g p m h S.h1 S.h2 S.h3 S.h4
  refine e.trans ?_
  unfold drp
  cases g:qi6 w p m h
  · unfold qi6 at g; rw [g]; rfl
  · unfold qi6 at g; rw [g]; rfl
theorem qfq (k:Nat)(hk:2000000≤k)(w:Wd)(p m h:Int)(S:Sml w):go (k+9) spec_Drop [wdR w,.int .i64 p,.int .i64 m,.int .i64 h]=some [wdO (drp w p m h),.bool (qi6 w p m h)]:=by
  have e:=qfp k hk w.r false w.s.1 false w.s.2.1 false w.s.2.2 false w.b w.p.bi w.p.bs w.p.bo w.p.rain w.p.loss w.p.dec w.p.high w.p.low w.p.every w.k w.ld.mi w.ld.mo w.ld.ti w.ld.ou w.f w.g p m h S.h1 S.h2 S.h3 S.h4
  refine e.trans ?_
  unfold drp
  cases g:qi6 w p m h
  · unfold qi6 at g; rw [g]; rfl
  · unfold qi6 at g; rw [g]; rfl
def actW (w:Wd)(a b c d:Int):Wd×Int:=
  if a=1 then (adv w b,isum (adv w b).s.2.1) else if a=2 then ({ w with p:= { w.p with rain:=b } },1) else if a=3 then ({ w with p:= { w.p with loss:=b } },1) else if a=4 then ({ w with p:= { w.p with bi:=b,bs:=c,bo:=d } },1) else
  if a=5 then ({ w with p:= { w.p with dec:=b } },1) else if a=6 then ({ w with p:= { w.p with high:=b,low:=c,every:=d } },(w.s.1.length:Int)) else (drp w b c d,cond (qi6 w b c d) 1 0)
def doW (w:Wd)(a b c d:Int):Wd×Int:=cond (wdOk w&&qat a b c d) (actW w a b c d) (w,-1)
theorem qa4 {w:Wd}(h:wdOk w=true)(n:Int):StF (adv w n).r (adv w n).s.1 (adv w n).s.2.1 (adv w n).s.2.2 (adv w n).b:=by
  unfold adv
  cases g:qa3 w n
  · exact (wdF h).F
  · exact (qa2 n.toNat w 0 (wdF h).adv).F
theorem qcx (k:Nat)(hk:2000000≤k)(r:Int)(l:List Cell)(m t b:List Int)(F:StF r l m t b):go (k+9) impl_TotalMass [.agg [.int .i64 (r),.arr false (false) (.r3 (l)),.arr false (false) (.ints .i64 (m)),.arr false (false) (.ints .i64 (t)),.arr false (false) (.ints .i64 (b))]]=some [.int .i64 (isum m)]:=by
  rw [qkz]
  have:=F.len; have:=F.ml; have:=F.tl; have:=F.rr; have:=F.bl
  have g:=stF.2 F
  have eS:=qd9 (k+7) (by omega) false m (by omega) F.mmem
  simp (disch:=omega) only [wk,bit,nI,qcw,g,eS]
theorem qav {a b c d:Int}(h:qat a b c d=true):1≤a∧a≤7:=by
  unfold qat at h
  by_cases h1:a=1
  · omega
  by_cases h2:a=2
  · omega
  by_cases h3:a=3
  · omega
  by_cases h4:a=4
  · omega
  by_cases h5:a=5
  · omega
  by_cases h6:a=6
  · omega
  by_cases h7:a=7
  · omega
  rw [dF h1,dF h2,dF h3,dF h4,dF h5,dF h6,dF h7] at h
  cases h
set_option maxHeartbeats 2000000 in
theorem qdf (k:Nat)(hk:2000000≤k)(w:Wd)(a b c d:Int)(hw:wdOk w=true)(ha:qat a b c d=true):
    go (k+13) impl_World_do [wdP w,.agg [.int .i64 a,.int .i64 b,.int .i64 c,.int .i64 d]]=some [.int .i64 (actW w a b c d).2,wdP (actW w a b c d).1]:=by
  rw [qk4]
  have F:=(wdF hw).F
  have S:=F.sml
  have L:=F.len
  have s1:=S.h1
  have kd:=qav ha
  unfold actW
  by_cases h1:a=1
  · have G:=qa4 hw b
    have eA:=qbx k (by omega) w b S
    have eT:=qcx (k+3) (by omega) _ _ _ _ _ G
    rw [if_pos h1]
    simp (disch:=omega) only [wk,bit,nI,eA,eT]
  rw [if_neg h1]
  by_cases h2:a=2
  · rw [if_pos h2]; simp (disch:=omega) only [wk,bit,nI]
  rw [if_neg h2]
  by_cases h3:a=3
  · rw [if_pos h3]; simp (disch:=omega) only [wk,bit,nI]
  rw [if_neg h3]
  by_cases h4:a=4
  · rw [if_pos h4]; simp (disch:=omega) only [wk,bit,nI]
  rw [if_neg h4]
  by_cases h5:a=5
  · rw [if_pos h5]; simp (disch:=omega) only [wk,bit,nI]
  rw [if_neg h5]
  by_cases h6:a=6
  · rw [if_pos h6]; simp (disch:=omega) only [wk,bit,nI]
  rw [if_neg h6]
  have h7:a=7:=by omega
  have eD:=qb4 (k+2) (by omega) w b c d S
  cases g:qi6 w b c d
  · rw [g] at eD; simp (disch:=omega) only [wk,bit,nI,eD]
  · rw [g] at eD; simp (disch:=omega) only [wk,bit,nI,eD]
set_option maxHeartbeats 2000000 in
theorem qb2 (k:Nat)(hk:2000000≤k)(w:Wd)(a b c d:Int)(S:Sml w):
    go (k+14) impl_DoAct [wdR w,.agg [.int .i64 a,.int .i64 b,.int .i64 c,.int .i64 d]]=some [wdO (doW w a b c d).1,.int .i64 (doW w a b c d).2]:=by
  rw [qje]
  have eC:=qdd (k+9) (by omega) w S
  have eO:=qc2 (k+4) (by omega) w S
  unfold doW
  cases g:wdOk w
  · rw [g] at eO
    simp (disch:=omega) only [wk,bit,nI,eC,eO]
  rw [g] at eO
  cases g2:qat a b c d
  · simp (disch:=omega) only [wk,bit,nI,eC,eO,qbw,g2]
  have eD:=qdf k (by omega) w a b c d g g2
  simp (disch:=omega) only [wk,bit,nI,eC,eO,qbw,g2,eD]
  rfl
set_option maxHeartbeats 2000000 in
theorem qfo (k:Nat)(hk:2000000≤k)(w:Wd)(a b c d:Int)(S:Sml w):
    go (k+10) spec_DoAct [wdR w,.agg [.int .i64 a,.int .i64 b,.int .i64 c,.int .i64 d]]=some [wdO (doW w a b c d).1,.int .i64 (doW w a b c d).2]:=by
  rw [qmz]
  have eC:=qha (k+6) (by omega) w S
  have eO:=qgi (k+1) (by omega) w S
  unfold doW
  cases g:wdOk w
  · rw [g] at eO
    simp (disch:=omega) only [wk,bit,nI,eC,eO]
  rw [g] at eO
  cases g2:qat a b c d
  · simp (disch:=omega) only [wk,bit,nI,eC,eO,qfi,g2]
  have F:=(wdF g).F
  have L:=F.len; have ml:=F.ml
  have kd:=qav g2
  simp only [Bool.and_self,qik]
  unfold actW
  by_cases h1:a=1
  · have G:=qa4 g b
    have GL:=G.len; have Gm:=G.ml
    have eA:=qfj k (by omega) w b S
    have eT:=qgv (k+8) (by omega) false _ (by omega) G.mmem
    rw [if_pos h1]
    simp (disch:=omega) only [wk,bit,nI,eC,eO,qfi,g2,eA,eT]
  rw [if_neg h1]
  by_cases h2:a=2
  · rw [if_pos h2]; simp (disch:=omega) only [wk,bit,nI,eC,eO,qfi,g2]
  rw [if_neg h2]
  by_cases h3:a=3
  · rw [if_pos h3]; simp (disch:=omega) only [wk,bit,nI,eC,eO,qfi,g2]
  rw [if_neg h3]
  by_cases h4:a=4
  · rw [if_pos h4]; simp (disch:=omega) only [wk,bit,nI,eC,eO,qfi,g2]
  rw [if_neg h4]
  by_cases h5:a=5
  · rw [if_pos h5]; simp (disch:=omega) only [wk,bit,nI,eC,eO,qfi,g2]
  rw [if_neg h5]
  by_cases h6:a=6
  · rw [if_pos h6]; simp (disch:=omega) only [wk,bit,nI,eC,eO,qfi,g2,ml]
  rw [if_neg h6]
  have h7:a=7:=by omega
  have eD:=qfq k (by omega) w b c d S
  cases q:qi6 w b c d
  · rw [q] at eD; simp (disch:=omega) only [wk,bit,nI,eC,eO,qfi,g2,eD]
  · rw [q] at eD; simp (disch:=omega) only [wk,bit,nI,eC,eO,qfi,g2,eD]
end Go.Proofs.YtjfjniebmdafeaaGreatDoor
end
section
namespace Go.Proofs.YtjfjniebmdafeaaGreatDoor
open Go.Ev
set_option maxRecDepth 20000
def nmB (a:Int):List UInt8:=if a=1 then [114,117,110] else if a=2 then [114,97,105,110] else if a=3 then [108,111,115,115] else if a=4 then [102,108,111,119] else if a=5 then [100,101,99,97,121] else if a=6 then [109,101,115,104] else [100,114,111,112]
def actL (a b c d:Int):List UInt8:=if a=4∨a=6∨a=7 then spacedL (nmB a) [b,c,d] else spacedL (nmB a) [b]
theorem qax {a:Int}(h:1≤a∧a≤7):a=1∨a=2∨a=3∨a=4∨a=5∨a=6∨a=7:=by omega
theorem qaw {a b c d:Int}(h:qat a b c d=true):1≤a∧a≤7:=by
  unfold qat at h
  refine Classical.byContradiction fun hh=> ?_
  have n1:¬ a=1:=by omega
  have n2:¬ a=2:=by omega
  have n3:¬ a=3:=by omega
  have n4:¬ a=4:=by omega
  have n5:¬ a=5:=by omega
  have n6:¬ a=6:=by omega
  have n7:¬ a=7:=by omega
  simp [n1,n2,n3,n4,n5,n6,n7] at h
theorem qau {a b c d:Int}(h:qat a b c d=true):(1≤a∧a≤7)∧(0≤b∧b≤1000000)∧(0≤c∧c≤1000000)∧0≤d∧d≤1000000:=by
  have k:=qaw h
  refine ⟨k,?_⟩
  rcases qax k with rfl | rfl | rfl | rfl | rfl | rfl | rfl<;>simp [qat,sgl,qbq,inR] at h<;>omega
theorem in64 {x:Int}(h:0≤x∧x≤1000000):inI64 x=true:=by
  unfold inI64; rw [decide_eq_true (by omega: -9223372036854775808≤x),decide_eq_true (by omega:x≤9223372036854775807)]; rfl
theorem y1:({ data:= #[(32:UInt8)] } :ByteArray)=ba [32]:=Eq.trans rfl rfl
theorem y2:({ data:= #[(114:UInt8),(117:UInt8),(110:UInt8)] } :ByteArray)=ba [114,117,110]:=Eq.trans rfl rfl
theorem y3:({ data:= #[(114:UInt8),(97:UInt8),(105:UInt8),(110:UInt8)] } :ByteArray)=ba [114,97,105,110]:=Eq.trans rfl rfl
theorem y4:({ data:= #[(108:UInt8),(111:UInt8),(115:UInt8),(115:UInt8)] } :ByteArray)=ba [108,111,115,115]:=Eq.trans rfl rfl
theorem y5:({ data:= #[(102:UInt8),(108:UInt8),(111:UInt8),(119:UInt8)] } :ByteArray)=ba [102,108,111,119]:=Eq.trans rfl rfl
theorem y6:({ data:= #[(100:UInt8),(101:UInt8),(99:UInt8),(97:UInt8),(121:UInt8)] } :ByteArray)=ba [100,101,99,97,121]:=Eq.trans rfl rfl
theorem y7:({ data:= #[(109:UInt8),(101:UInt8),(115:UInt8),(104:UInt8)] } :ByteArray)=ba [109,101,115,104]:=Eq.trans rfl rfl
theorem y8:({ data:= #[(100:UInt8),(114:UInt8),(111:UInt8),(112:UInt8)] } :ByteArray)=ba [100,114,111,112]:=Eq.trans rfl rfl
theorem y0:({ data:= #[] } :ByteArray)=ba []:=Eq.trans rfl rfl
theorem qfs (k:Nat)(hk:2000000≤k)(a b c d:Int):go (k+4) spec_FormatAct [.agg [.int .i64 a,.int .i64 b,.int .i64 c,.int .i64 d]]=cond (qat a b c d) (some [.str (ba (actL a b c d)),.bool true]) (some [.str (ba []),.bool false]):=by
  rw [qm1]
  cases g:qat a b c d
  · simp (disch:=omega) only [wk,bit,nI,qfi,g,y0]
  have bd:=qau g
  have sb:=qqt b (in64 bd.2.1); have sc:=qqt c (in64 bd.2.2.1); have sd:=qqt d (in64 bd.2.2.2)
  have fb:=qft (k+1) (by omega) b (in64 bd.2.1)
  have fc:=qft (k+1) (by omega) c (in64 bd.2.2.1)
  have fd:=qft (k+1) (by omega) d (in64 bd.2.2.2)
  rcases qax bd.1 with h | h | h | h | h | h | h
  · have e:actL a b c d=[114,117,110]++([32]++Lib.itoa b):=by subst h; simp [actL,nmB,spacedL]
    rw [e]
    simp (disch:=omega) only [wk,bit,nI,qfi,g,fb,fc,fd,y1,y2,y3,y4,y5,y6,y7,y8,qba,qbd,List.length_append,List.length_cons,List.length_nil]
  · have e:actL a b c d=[114,97,105,110]++([32]++Lib.itoa b):=by subst h; simp [actL,nmB,spacedL]
    rw [e]
    simp (disch:=omega) only [wk,bit,nI,qfi,g,fb,fc,fd,y1,y2,y3,y4,y5,y6,y7,y8,qba,qbd,List.length_append,List.length_cons,List.length_nil]
  · have e:actL a b c d=[108,111,115,115]++([32]++Lib.itoa b):=by subst h; simp [actL,nmB,spacedL]
    rw [e]
    simp (disch:=omega) only [wk,bit,nI,qfi,g,fb,fc,fd,y1,y2,y3,y4,y5,y6,y7,y8,qba,qbd,List.length_append,List.length_cons,List.length_nil]
  · have e:actL a b c d=[102,108,111,119]++([32]++Lib.itoa b++[32]++Lib.itoa c++[32]++Lib.itoa d):=by subst h; simp [actL,nmB,spacedL]
    rw [e]
    simp (disch:=omega) only [wk,bit,nI,qfi,g,fb,fc,fd,y1,y2,y3,y4,y5,y6,y7,y8,qba,qbd,List.length_append,List.length_cons,List.length_nil]
  · have e:actL a b c d=[100,101,99,97,121]++([32]++Lib.itoa b):=by subst h; simp [actL,nmB,spacedL]
    rw [e]
    simp (disch:=omega) only [wk,bit,nI,qfi,g,fb,fc,fd,y1,y2,y3,y4,y5,y6,y7,y8,qba,qbd,List.length_append,List.length_cons,List.length_nil]
  · have e:actL a b c d=[109,101,115,104]++([32]++Lib.itoa b++[32]++Lib.itoa c++[32]++Lib.itoa d):=by subst h; simp [actL,nmB,spacedL]
    rw [e]
    simp (disch:=omega) only [wk,bit,nI,qfi,g,fb,fc,fd,y1,y2,y3,y4,y5,y6,y7,y8,qba,qbd,List.length_append,List.length_cons,List.length_nil]
  · have e:actL a b c d=[100,114,111,112]++([32]++Lib.itoa b++[32]++Lib.itoa c++[32]++Lib.itoa d):=by subst h; simp [actL,nmB,spacedL]
    rw [e]
    simp (disch:=omega) only [wk,bit,nI,qfi,g,fb,fc,fd,y1,y2,y3,y4,y5,y6,y7,y8,qba,qbd,List.length_append,List.length_cons,List.length_nil]
def NM:List ByteArray:=[ba [],ba [114,117,110],ba [114,97,105,110],ba [108,111,115,115],ba [102,108,111,119],ba [100,101,99,97,121],ba [109,101,115,104],ba [100,114,111,112]]
theorem qag:NM.length=8:=Eq.trans rfl rfl
theorem qaf {a:Int}(h:1≤a∧a≤7):List.getD NM (Int.toNat a) ByteArray.empty=ba (nmB a):=by
  rcases qax h with rfl | rfl | rfl | rfl | rfl | rfl | rfl<;>rfl
theorem qwo (a:Int):ByteArray.size (ba (nmB a))≤1000:=by
  rw [qbd]; unfold nmB
  repeat' split
  all_goals simp
theorem qc4 (k:Nat):go (k+1) impl_actNames []=some [.arr true false (.strs NM)]:=by
  rw [qk6]; rfl
theorem qb5 (k:Nat)(hk:2000000≤k)(a b c d:Int):go (k+4) impl_FormatAct [.agg [.int .i64 a,.int .i64 b,.int .i64 c,.int .i64 d]]=cond (qat a b c d) (some [.str (ba (actL a b c d)),.bool true]) (some [.str (ba []),.bool false]):=by
  rw [qjg]
  cases g:qat a b c d
  · simp (disch:=omega) only [wk,bit,nI,qbw,g,y0]
  have bd:=qau g
  have na:=qaf bd.1
  have nl:((NM.length:Nat):Int)=8:=by rw [qag]; rfl
  have s1:=qd8 (k+2) (ba (nmB a)) false [b] (qwo a) (by simp) (by simp [in64 bd.2.1])
  have s3:=qd8 (k+2) (ba (nmB a)) false [b,c,d] (qwo a) (by simp) (by simp [in64 bd.2.1,in64 bd.2.2.1,in64 bd.2.2.2])
  rw [qbc] at s1 s3
  by_cases h:a=4∨a=6∨a=7
  · have e:actL a b c d=spacedL (nmB a) [b,c,d]:=if_pos h
    rw [e]
    rcases h with h | h | h
    · simp (disch:=omega) only [wk,bit,nI,qbw,g,qlj,qc4,na,nl,s3,q2k]
    · simp (disch:=omega) only [wk,bit,nI,qbw,g,qlj,qc4,na,nl,s3,q2k]
    · simp (disch:=omega) only [wk,bit,nI,qbw,g,qlj,qc4,na,nl,s3,q2k]
  · have e:actL a b c d=spacedL (nmB a) [b]:=if_neg h
    rw [e]
    simp (disch:=omega) only [wk,bit,nI,qbw,g,qlj,qc4,na,nl,s1,q2k]
end Go.Proofs.YtjfjniebmdafeaaGreatDoor
end
section
namespace Go.Proofs.YtjfjniebmdafeaaGreatDoor
open Go.Ev
def qvw (b:Int):Nat→List Cell
  | 0=>[]
  | n+1=>(b,b+1,b+2)::qvw (b+3) n
theorem q1a {α:Type}(l:List α)(i:Nat)(x y:α):(l.set i x).set i y=l.set i y:=List.set_set ..
theorem qpk {α:Type}{l:List α}{i:Nat}(h:i<l.length)(x d:α):(l.set i x).getD i d=x:=by rw [q06]; simp [h]
theorem quu (k:Nat)(hk:2000000≤k)(fu:List (Nat×Nat))(az:Bool)(a:List Cell)(z:Bool)(L:Nat)(hl:(L:Int)≤1048576): ∀ (n i:Nat)(l:List Cell)(b:Int),l.length=L→i≤L→0≤b→b≤8796093022208+3*i→L - i<n→
    lp k laws_markIdS [(.arr true (az) (.r3 (a)))] fu 2 (n) (qz2 b (i:Int) z l)=some [.int .i64 (b+3*(L - i:Nat)),.arr true z (.r3 (l.take i++qvw b (L - i)))]
  | 0,i,l,b,hL,hi,h0,hb,hn=>by omega
  | n+1,i,l,b,hL,hi,h0,hb,hn=>by
    rw [qr5]
    by_cases h:i<L
    · have e:=quu k hk fu az a z L hl n (i+1) (l.set i (b,b+1,b+2)) (b+3) (by simp [hL]) (by omega) (by omega) (by omega) (by omega)
      rw [q07 l l i _ _ (by omega)] at e
      rw [show L - i=(L - (i+1))+1 by omega]
      simp only [qvw]
      simp (disch:=omega) only [wk,bit,nI,q1a,qpk,show b+1+1=b+2 by omega,show b+2+1=b+3 by omega]
      rw [e,show b+3+3*((L - (i+1):Nat):Int)=b+3*((L - (i+1)+1:Nat):Int) by omega]
    · simp (disch:=omega) only [wk,bit,nI]
      rw [show L - i=0 by omega]
      simp only [qvw,List.append_nil]
      rw [List.take_of_length_le (by omega)]
      simp
theorem qer (k:Nat)(hk:2000000≤k)(az:Bool)(a:List (Int×Int×Int))(b:Int)(hl:(a.length:Int)≤1048576)(h0:0≤b)(hb:b≤8796093022208):go (k+1) laws_markIdS [(.arr true (az) (.r3 (a))),(.int .i64 (b))]=some [.int .i64 (b+3*a.length),.arr true az (.r3 (qvw b a.length))]:=by
  rw [ql0]
  have e:=quu k hk [] az a az a.length hl (k+0) 0 a b rfl (by omega) h0 (by omega) (by omega)
  simpa using e
theorem qet (k:Nat)(hk:2000000≤k)(a0:Int)(a1z:Bool)(a1:List (Int×Int×Int))(b:Int)(hl:(a1.length:Int)≤1048576)(h0:0≤b)(hb:b≤8796093022208):go (k+2) laws_markMesh [(.agg [(.int .i64 (a0)),(.arr true (a1z) (.r3 (a1)))]),(.int .i64 (b))]=some [.int .i64 (b+3*a1.length),.agg [.int .i64 a0,.arr true a1z (.r3 (qvw b a1.length))]]:=by
  rw [ql2]
  simp (disch:=omega) only [wk,bit,nI,qer]
theorem qeu (k:Nat)(hk:2000000≤k)(a0:Int)(a1z:Bool)(a1:List (Int×Int×Int))(a2z:Bool)(a2:List Int)(a3z:Bool)(a3:List Int)(a4z:Bool)(a4:List Int)(b:Int)(h1:(a1.length:Int)≤1048576)(h2:(a2.length:Int)≤1048576)(h3:(a3.length:Int)≤1048576)(h4:(a4.length:Int)≤1048576)(h0:0≤b)(hb:b≤8700000000000):
    go (k+3) laws_markState [(.agg [(.int .i64 (a0)),(.arr true (a1z) (.r3 (a1))),(.arr true (a2z) (.ints .i64 (a2))),(.arr true (a3z) (.ints .i64 (a3))),(.arr true (a4z) (.ints .i64 (a4)))]),(.int .i64 (b))]=some [.int .i64 (b+3*a1.length+a2.length+a3.length+a4.length),.agg [.int .i64 a0,.arr true a1z (.r3 (qvw b a1.length)),.arr true a2z (.ints .i64 (marks (b+3*a1.length) a2.length)),.arr true a3z (.ints .i64 (marks (b+3*a1.length+a2.length) a3.length)),.arr true a4z (.ints .i64 (marks (b+3*a1.length+a2.length+a3.length) a4.length))]]:=by
  rw [ql3]
  simp (disch:=omega) only [wk,bit,nI,qet,qes]
end Go.Proofs.YtjfjniebmdafeaaGreatDoor
end
section
namespace Go.Proofs.YtjfjniebmdafeaaGreatDoor
open Go.Ev
set_option maxRecDepth 20000
theorem qex (k:Nat)(hk:2000000≤k)(a0:Int)(a1z:Bool)(a1:List (Int×Int×Int))(a2z:Bool)(a2:List Int)(a3z:Bool)(a3:List Int)(a4z:Bool)(a4:List Int)(a5:Int)(a6:Int)(a7:Int)(a8:Int)(a9:Int)(a10:Int)(a11:Int)(a12:Int)(a13:Int)(a14:Int)(a15:Int)(a16:Int)(a17:Int)(a18:Int)(a19:Int)(a20:Int)(b:Int)(h1:(a1.length:Int)≤1048576)(h2:(a2.length:Int)≤1048576)(h3:(a3.length:Int)≤1048576)(h4:(a4.length:Int)≤1048576)(h0:0≤b)(hb:b≤8700000000000):
    go (k+4) laws_markWorld [(.agg [(.int .i64 (a0)),(.arr true (a1z) (.r3 (a1))),(.arr true (a2z) (.ints .i64 (a2))),(.arr true (a3z) (.ints .i64 (a3))),(.arr true (a4z) (.ints .i64 (a4))),(.int .i64 (a5)),(.int .i64 (a6)),(.int .i64 (a7)),(.int .i64 (a8)),(.int .i64 (a9)),(.int .i64 (a10)),(.int .i64 (a11)),(.int .i64 (a12)),(.int .i64 (a13)),(.int .i64 (a14)),(.int .i64 (a15)),(.int .i64 (a16)),(.int .i64 (a17)),(.int .i64 (a18)),(.int .i64 (a19)),(.int .i64 (a20))]),(.int .i64 (b))]=some [.int .i64 (b+3*a1.length+a2.length+a3.length+a4.length),.agg [.int .i64 a0,.arr true a1z (.r3 (qvw b a1.length)),.arr true a2z (.ints .i64 (marks (b+3*a1.length) a2.length)),.arr true a3z (.ints .i64 (marks (b+3*a1.length+a2.length) a3.length)),.arr true a4z (.ints .i64 (marks (b+3*a1.length+a2.length+a3.length) a4.length)),.int .i64 a5,.int .i64 a6,.int .i64 a7,.int .i64 a8,.int .i64 a9,.int .i64 a10,.int .i64 a11,.int .i64 a12,.int .i64 a13,.int .i64 a14,.int .i64 a15,.int .i64 a16,.int .i64 a17,.int .i64 a18,.int .i64 a19,.int .i64 a20]]:=by
  rw [ql6]
  simp (disch:=omega) only [wk,bit,nI,qeu]
end Go.Proofs.YtjfjniebmdafeaaGreatDoor
end
section
namespace Go.Proofs.YtjfjniebmdafeaaGreatDoor
open Go.Ev
set_option maxRecDepth 20000
abbrev aOk (x:Int×Int×Int×Int):Bool:=qat x.1 x.2.1 x.2.2.1 x.2.2.2
abbrev aL (x:Int×Int×Int×Int):List UInt8:=actL x.1 x.2.1 x.2.2.1 x.2.2.2
def qp5 (l:List UInt8):List Int:=l.map fun b=>(b.toNat:Int)
theorem qbs (l:List UInt8):bytesL (ba l)=qp5 l:=Eq.trans rfl rfl
theorem q2j (l:List UInt8):strL (qp5 l)=ba l:=by
  unfold strL qp5
  rw [List.map_map]
  have:((fun n=>UInt8.ofNat (Int.toNat n)) ∘ fun (b:UInt8)=>(b.toNat:Int))=id:=by
    funext b; simp
  rw [this,List.map_id]
theorem qp7 (a b:List UInt8):qp5 a++qp5 b=qp5 (a++b):=by simp [qp5]
theorem qqa (a:List UInt8):(qp5 a).length=a.length:=List.length_map ..
end Go.Proofs.YtjfjniebmdafeaaGreatDoor
end
section
namespace Go.Proofs.YtjfjniebmdafeaaGreatDoor
open Go.Ev
set_option maxRecDepth 20000
def dgS (x v m t:Int):Int:=Int.tmod (((x*31+v)*31+m)*31+t) 1000003
def dgA (l:List Cell)(m t:List Int):Nat→Int
  | 0=>1
  | n+1=>dgS (dgA l m t n) (qte l n) (m.getD n 0) (t.getD n 0)
def dgB (x:Int)(b:List Int):Nat→Int
  | 0=>x
  | n+1=>Int.tmod (dgB x b n*31+b.getD n 0) 1000003
theorem q3d {x:Int}(h:0≤x):0≤Int.tmod x 1000003∧Int.tmod x 1000003≤1000002:=by
  rw [Int.tmod_eq_emod_of_nonneg h]; omega
theorem qix {r:Int}{l:List Cell}{m t b:List Int}(F:StF r l m t b): ∀ n,0≤dgA l m t n∧dgA l m t n≤1000002
  | 0=>⟨by show (0:Int)≤1; omega,by show (1:Int)≤1000002; omega⟩
  | n+1=>by
    have ih:=qix F n
    have a:=F.at n
    have lv:=qwc l r 0 F.mesh n
    unfold dgA dgS
    exact q3d (by omega)
theorem qiy {r:Int}{l:List Cell}{m t b:List Int}(F:StF r l m t b)(x:Int)(hx:0≤x∧x≤1000002): ∀ n,0≤dgB x b n∧dgB x b n≤1000002
  | 0=>hx
  | n+1=>by
    have ih:=qiy F x hx n
    have a:=F.bedAt n
    unfold dgB
    exact q3d (by omega)
def dig (l:List Cell)(m t b:List Int):Int:=dgB (dgA l m t l.length) b b.length
theorem qi1 {r:Int}{l:List Cell}{m t b:List Int}(F:StF r l m t b):0≤dig l m t b∧dig l m t b≤1000002:=qiy F _ (qix F _) _
theorem qu3 (k:Nat)(hk:2000000≤k)(fu:List (Nat×Nat))(r:Int)(z1 z2 z3 z4:Bool)(l:List Cell)(m t b:List Int)(F:StF r l m t b)(x:Int)(hx:0≤x∧x≤1000002): ∀ (N i:Nat),i≤b.length→b.length - i<N→
    lp (k+7) spec_DigestOf [] fu 9 (N) (q0e (dgB x b i) (i:Int) z1 l z2 m z3 t z4 b r)=some [.int .i64 (dgB x b b.length)]
  | 0,i,hi,hN=>by omega
  | N+1,i,hi,hN=>by
    rw [qsh]
    have bd:=qiy F x hx i; have ba:=F.bedAt i; have bl:=F.bl; have rr:=F.rr
    by_cases g:i<b.length
    · have IH:=qu3 k hk fu r z1 z2 z3 z4 l m t b F x hx N (i+1) (by omega) (by omega)
      rw [dgB] at IH
      simp (disch:=omega) only [wk,bit,nI,IH]
    · obtain rfl:i=b.length:=by omega
      simp (disch:=omega) only [wk,bit,nI]
theorem qu2 (k:Nat)(hk:2000000≤k)(fu:List (Nat×Nat))(r:Int)(z1 z2 z3 z4:Bool)(l:List Cell)(m t b:List Int)(F:StF r l m t b): ∀ (N i:Nat),i≤l.length→l.length - i<N→
    lp (k+7) spec_DigestOf [] fu 5 (N) (q0d (dgA l m t i) (i:Int) z1 l z2 m z3 t z4 b r)=some [.int .i64 (dig l m t b)]
  | 0,i,hi,hN=>by omega
  | N+1,i,hi,hN=>by
    rw [qsg]
    have bd:=qix F i; have a:=F.at i; have lv:=qwc l r 0 F.mesh i; have ml:=F.ml; have tl:=F.tl; have bl:=F.bl; have rr:=F.rr; have ll:=F.len
    simp only [qte] at lv
    by_cases g:i<l.length
    · have IH:=qu2 k hk fu r z1 z2 z3 z4 l m t b F N (i+1) (by omega) (by omega)
      rw [dgA,dgS] at IH
      simp only [qte] at IH
      simp (disch:=omega) only [wk,bit,nI,IH]
    · obtain rfl:i=l.length:=by omega
      have e9:=qu3 k hk fu r z1 z2 z3 z4 l m t b F (dgA l m t l.length) bd (k+7) 0 (by omega) (by omega)
      rw [show dgB (dgA l m t l.length) b 0=dgA l m t l.length from rfl,show ((0:Nat):Int)=0 from rfl] at e9
      simp (disch:=omega) only [wk,bit,nI,e9]
      rfl
theorem qfm (k:Nat)(hk:2000000≤k)(r:Int)(z1 z2 z3 z4:Bool)(l:List Cell)(m t b:List Int)(F:StF r l m t b):go (k+8) spec_DigestOf [.agg [.int .i64 (r),.arr false (z1) (.r3 (l)),.arr false (z2) (.ints .i64 (m)),.arr false (z3) (.ints .i64 (t)),.arr false (z4) (.ints .i64 (b))]]=some [.int .i64 (dig l m t b)]:=by
  rw [qmx]
  have ll:=F.len; have bl:=F.bl; have rr:=F.rr
  have eS:=qge k (by omega) r z1 l z2 m z3 t z4 b (by omega) (by omega)
  rw [stF.2 F] at eS
  have e:=qu2 k hk [] r z1 z2 z3 z4 l m t b F (k+7) 0 (by omega) (by omega)
  rw [show dgA l m t 0=1 from rfl,show ((0:Nat):Int)=0 from rfl] at e
  simp (disch:=omega) only [wk,bit,nI,eS]
  exact e
theorem qt2 (k:Nat)(hk:2000000≤k)(fu:List (Nat×Nat))(r:Int)(z4:Bool)(l:List Cell)(m t b:List Int)(F:StF r l m t b)(x:Int)(hx:0≤x∧x≤1000002): ∀ (N i:Nat),i≤b.length→b.length - i<N→
    lp (k+8) impl_DigestOf [] fu 10 (N) (qy9 (dgB x b i) (b.length:Int) (i:Int) z4 b)=some [.int .i64 (dgB x b b.length)]
  | 0,i,hi,hN=>by omega
  | N+1,i,hi,hN=>by
    rw [qrc]
    have bd:=qiy F x hx i; have ba:=F.bedAt i; have bl:=F.bl; have rr:=F.rr
    by_cases g:i<b.length
    · have IH:=qt2 k hk fu r z4 l m t b F x hx N (i+1) (by omega) (by omega)
      rw [dgB] at IH
      simp (disch:=omega) only [wk,bit,nI,IH]
    · obtain rfl:i=b.length:=by omega
      simp (disch:=omega) only [wk,bit,nI]
theorem qt3 (k:Nat)(hk:2000000≤k)(fu:List (Nat×Nat))(r:Int)(z1 z2 z3 z4:Bool)(l:List Cell)(m t b:List Int)(F:StF r l m t b): ∀ (N i:Nat),i≤l.length→l.length - i<N→
    lp (k+8) impl_DigestOf [] fu 5 (N) (qza (dgA l m t i) (l.length:Int) (i:Int) z1 l z2 m z3 t z4 b r)=some [.int .i64 (dig l m t b)]
  | 0,i,hi,hN=>by omega
  | N+1,i,hi,hN=>by
    rw [qrd]
    have bd:=qix F i; have a:=F.at i; have lv:=qwc l r 0 F.mesh i; have ml:=F.ml; have tl:=F.tl; have bl:=F.bl; have rr:=F.rr; have ll:=F.len
    simp only [qte] at lv
    by_cases g:i<l.length
    · have IH:=qt3 k hk fu r z1 z2 z3 z4 l m t b F N (i+1) (by omega) (by omega)
      rw [dgA,dgS] at IH
      simp only [qte] at IH
      simp (disch:=omega) only [wk,bit,nI,IH]
    · obtain rfl:i=l.length:=by omega
      have e9:=qt2 k hk fu r z4 l m t b F (dgA l m t l.length) bd (k+8) 0 (by omega) (by omega)
      rw [show dgB (dgA l m t l.length) b 0=dgA l m t l.length from rfl,show ((0:Nat):Int)=0 from rfl] at e9
      simp (disch:=omega) only [wk,bit,nI,e9]
      rfl
theorem qb0 (k:Nat)(hk:2000000≤k)(r:Int)(z1 z2 z3 z4:Bool)(l:List Cell)(m t b:List Int)(F:StF r l m t b):go (k+9) impl_DigestOf [.agg [.int .i64 (r),.arr false (z1) (.r3 (l)),.arr false (z2) (.ints .i64 (m)),.arr false (z3) (.ints .i64 (t)),.arr false (z4) (.ints .i64 (b))]]=some [.int .i64 (dig l m t b)]:=by
  rw [qjc]
  have ll:=F.len; have bl:=F.bl; have rr:=F.rr
  have eS:=qcw k (by omega) r z1 l z2 m z3 t z4 b (by omega) (by omega)
  rw [stF.2 F] at eS
  have e:=qt3 k hk [] r z1 z2 z3 z4 l m t b F (k+8) 0 (by omega) (by omega)
  rw [show dgA l m t 0=1 from rfl,show ((0:Nat):Int)=0 from rfl] at e
  simp (disch:=omega) only [wk,bit,nI,eS]
  exact e
theorem qtf {v:Int}(h:0≤v∧v≤4):IntKind.wrap IntKind.u8 (48+v)=48+v:=q4b (by omega) (by omega)
theorem qqq {v:Int}(h:0≤v∧v≤4):Lib.itoa v=[UInt8.ofNat (48+v.toNat)]:=by
  unfold Lib.itoa
  rw [if_neg (by omega)]
  exact Lib.decDigits_one (by omega)
theorem qp9 {v:Int}(h:0≤v∧v≤4):[48+v]=qp5 (Lib.itoa v):=by
  rw [qqq h]
  have:v=0∨v=1∨v=2∨v=3∨v=4:=by omega
  rcases this with rfl | rfl | rfl | rfl | rfl<;>rfl
theorem qu4 (k:Nat)(hk:2000000≤k)(fu:List (Nat×Nat))(z:Bool)(r:Int)(l:List Cell)(g:qv6 r 0 l=true): ∀ (N i:Nat)(b:Bool),i≤l.length→l.length - i<N→
    lp (k+5) spec_FormatMesh [] fu 3 (N) (q0g (i:Int) z l r b (qp5 (fmTo l i)))=some [.str (ba (fmTo l l.length))]
  | 0,i,b,hi,hN=>by omega
  | N+1,i,b,hi,hN=>by
    rw [qsj]
    have L:=qwb g
    have lv:=qwc l r 0 g i
    simp only [qte] at lv
    have ln:=qo7 l (fun i hi=>by
      have h:=qwc l r 0 g i
      simp only [qte] at h
      unfold inI64
      rw [decide_eq_true (by omega: -9223372036854775808≤(l.getD i zz3).2.1),decide_eq_true (by omega:(l.getD i zz3).2.1≤9223372036854775807)]; rfl) i hi
    have li:=qqa (fmTo l i)
    have bl:bigLen=1099511627776:=rfl
    have wd:=qtf lv
    by_cases h:i<l.length
    · have IH:=fun b=>qu4 k hk fu z r l g N (i+1) b (by omega) (by omega)
      have eM:=qf4 k (by omega) r z l (by omega)
      rw [g] at eM
      have dg:=qp9 lv
      by_cases h0:i=0
      · subst h0
        have e:qp5 (fmTo l (0+1))=qp5 (fmTo l 0)++[48+(l.getD 0 zz3).2.1]:=by
          rw [dg,qp7]; show qp5 (fmTo l 0++fmB l 0)=_; unfold fmB; rw [if_neg (by omega),List.nil_append]
        rw [e] at IH
        simp (disch:=omega) only [wk,bit,nI,eM,wd,bl,li,List.length_append,List.length_cons,List.length_nil]
        exact IH _
      · have ci:(i:Int) - 1=((i - 1:Nat):Int):=by omega
        by_cases q:(l.getD i zz3).1=(l.getD (i - 1) zz3).1
        · have e:qp5 (fmTo l (i+1))=qp5 (fmTo l i)++[48+(l.getD i zz3).2.1]:=by
            rw [dg,qp7]; show qp5 (fmTo l i++fmB l i)=_; unfold fmB; rw [if_neg (fun h=>h.2 q),List.nil_append]
          rw [e] at IH
          have q' :decide ((l.getD i zz3).1=(l.getD (i - 1) zz3).1)=true:=decide_eq_true q
          simp (disch:=omega) only [wk,bit,nI,eM,wd,bl,li,ci,q',List.length_append,List.length_cons,List.length_nil]
          exact IH _
        · have e:qp5 (fmTo l (i+1))=qp5 (fmTo l i)++[124]++[48+(l.getD i zz3).2.1]:=by
            rw [dg,show ([124]:List Int)=qp5 [124] from rfl,qp7,qp7]; show qp5 (fmTo l i++fmB l i)=_; unfold fmB; rw [if_pos ⟨by omega,q⟩,List.append_assoc]
          rw [e] at IH
          have q' :decide ((l.getD i zz3).1=(l.getD (i - 1) zz3).1)=false:=decide_eq_false q
          simp (disch:=omega) only [wk,bit,nI,eM,wd,bl,li,ci,q',List.length_append,List.length_cons,List.length_nil]
          exact IH _
    · obtain rfl:i=l.length:=by omega
      simp (disch:=omega) only [wk,bit,nI,q2j]
theorem qo8 {r:Int}{l:List Cell}(g:qv6 r 0 l=true):fmeshL r l=fmTo l l.length:=by unfold fmeshL; rw [qwd,g]; rfl
theorem qfu (k:Nat)(hk:2000000≤k)(r:Int)(z:Bool)(l:List Cell)(g:qv6 r 0 l=true):go (k+6) spec_FormatMesh [.agg [.int .i64 r,.arr false z (.r3 l)]]=some [.str (ba (fmeshL r l))]:=by
  rw [qm3,qo8 g]
  have e:=qu4 k hk [] z r l g (k+5) 0 false (by omega) (by have:=qwb g; omega)
  rw [show qp5 (fmTo l 0)=[] from rfl,show ((0:Nat):Int)=0 from rfl] at e
  exact e
def ln (w:List UInt8)(x:Int):List UInt8:=spacedL w [x]
def fwL (w:Wd):List ByteArray:=[ba (ln [115,116,101,112] w.k),ba ([109,101,115,104,32]++fmeshL w.r w.s.1),ba (ln [109,97,115,115] (isum w.s.2.1)),ba (ln [116,114,97,99,101,114] (isum w.s.2.2)),ba (ln [105,110] w.ld.mi),ba (ln [111,117,116] w.ld.mo),ba (ln [100,105,103,101,115,116] (dig w.s.1 w.s.2.1 w.s.2.2 w.b))]
def fwT (w:Wd):List ByteArray:=cond (wdOk w) (fwL w) []
theorem qp1 {x:Int}(h: -1000000000000000000≤x∧x≤1000000000000000000):inI64 x=true:=by
  unfold inI64; rw [decide_eq_true (by omega: -9223372036854775808≤x),decide_eq_true (by omega:x≤9223372036854775807)]; rfl
theorem qpb {r:Int}{l:List Cell}(g:qv6 r 0 l=true):(fmeshL r l).length≤5000:=by
  rw [qo8 g]
  have L:=qwb g
  have ln:=qo7 l (fun i hi=>by
      have h:=qwc l r 0 g i
      simp only [qte] at h
      exact qp1 (by omega)) l.length (Nat.le_refl _)
  omega
theorem qfv (k:Nat)(hk:2000000≤k)(w:Wd)(S:Sml w):go (k+9) spec_FormatWorld [wdR w]=some [.arr true false (.strs (fwT w))]:=by
  rw [qm4]
  have h1:=S.h1; have h2:=S.h2; have h3:=S.h3; have h4:=S.h4
  have eW:=qgh k (by omega) w.r false w.s.1 false w.s.2.1 false w.s.2.2 false w.b w.p.bi w.p.bs w.p.bo w.p.rain w.p.loss w.p.dec w.p.high w.p.low w.p.every w.k w.ld.mi w.ld.mo w.ld.ti w.ld.ou w.f w.g (by omega) (by omega)
  rw [show q39 w.r w.s.1 w.s.2.1 w.s.2.2 w.b w.p.bi w.p.bs w.p.bo w.p.rain w.p.loss w.p.dec w.p.high w.p.low w.p.every w.k w.ld.mi w.ld.mo w.ld.ti w.ld.ou w.f w.g=wdOk w from rfl] at eW
  unfold fwT
  cases g:wdOk w
  · rw [g] at eW
    simp (disch:=omega) only [wk,bit,nI,eW]
  rw [g] at eW
  have F:=wdF g
  have s1:=qqh _ F.F.mmem; have s2:=qqh _ F.F.tmem
  have ll:=F.F.len; have ml:=F.F.ml; have tl:=F.F.tl; have bl:=F.F.bl; have rr:=F.F.rr
  have k0:=F.k; have l1:=F.L.mi; have l2:=F.L.mo
  have db:=qi1 F.F
  have fz:=qpb F.F.mesh
  have i1:inI64 w.k=true:=qp1 (by omega)
  have i2:inI64 (isum w.s.2.1)=true:=qp1 (by omega)
  have i3:inI64 (isum w.s.2.2)=true:=qp1 (by omega)
  have i4:inI64 w.ld.mi=true:=qp1 (by omega)
  have i5:inI64 w.ld.mo=true:=qp1 (by omega)
  have i6:inI64 (dig w.s.1 w.s.2.1 w.s.2.2 w.b)=true:=qp1 (by omega)
  have a1:=qft (k+6) (by omega) _ i1
  have a2:=qft (k+6) (by omega) _ i2
  have a3:=qft (k+6) (by omega) _ i3
  have a4:=qft (k+6) (by omega) _ i4
  have a5:=qft (k+6) (by omega) _ i5
  have a6:=qft (k+6) (by omega) _ i6
  have z1:=qqt _ i1; have z2:=qqt _ i2; have z3:=qqt _ i3; have z4:=qqt _ i4; have z5:=qqt _ i5; have z6:=qqt _ i6
  have b1:=qgv (k+7) (by omega) false w.s.2.1 (by omega) F.F.mmem
  have b2:=qgv (k+7) (by omega) false w.s.2.2 (by omega) F.F.tmem
  have b3:=qfu (k+2) (by omega) w.r false w.s.1 F.F.mesh
  have b4:=qfm k (by omega) w.r false false false false w.s.1 w.s.2.1 w.s.2.2 w.b F.F
  have q1:({ data:= #[(115:UInt8),(116:UInt8),(101:UInt8),(112:UInt8),(32:UInt8)] } :ByteArray)=ba [115,116,101,112,32]:=Eq.trans rfl rfl
  have q2:({ data:= #[(109:UInt8),(101:UInt8),(115:UInt8),(104:UInt8),(32:UInt8)] } :ByteArray)=ba [109,101,115,104,32]:=Eq.trans rfl rfl
  have q3:({ data:= #[(109:UInt8),(97:UInt8),(115:UInt8),(115:UInt8),(32:UInt8)] } :ByteArray)=ba [109,97,115,115,32]:=Eq.trans rfl rfl
  have q4:({ data:= #[(116:UInt8),(114:UInt8),(97:UInt8),(99:UInt8),(101:UInt8),(114:UInt8),(32:UInt8)] } :ByteArray)=ba [116,114,97,99,101,114,32]:=Eq.trans rfl rfl
  have q5:({ data:= #[(105:UInt8),(110:UInt8),(32:UInt8)] } :ByteArray)=ba [105,110,32]:=Eq.trans rfl rfl
  have q6:({ data:= #[(111:UInt8),(117:UInt8),(116:UInt8),(32:UInt8)] } :ByteArray)=ba [111,117,116,32]:=Eq.trans rfl rfl
  have q7:({ data:= #[(100:UInt8),(105:UInt8),(103:UInt8),(101:UInt8),(115:UInt8),(116:UInt8),(32:UInt8)] } :ByteArray)=ba [100,105,103,101,115,116,32]:=Eq.trans rfl rfl
  simp (disch:=omega) only [wk,bit,nI,eW,a1,b3,b1,a2,b2,a3,a4,a5,b4,a6,q1,q2,q3,q4,q5,q6,q7,qba,qbd,List.length_append,List.length_cons,List.length_nil]
  simp [fwL,ln,spacedL]
theorem qb8 (k:Nat)(hk:2000000≤k)(w:Wd)(S:Sml w):go (k+10) impl_FormatWorld [wdR w]=some [.arr true (!wdOk w) (.strs (fwT w))]:=by
  rw [qji]
  have h1:=S.h1; have h2:=S.h2; have h3:=S.h3; have h4:=S.h4
  have eW:=qc1 k (by omega) w.r false w.s.1 false w.s.2.1 false w.s.2.2 false w.b w.p.bi w.p.bs w.p.bo w.p.rain w.p.loss w.p.dec w.p.high w.p.low w.p.every w.k w.ld.mi w.ld.mo w.ld.ti w.ld.ou w.f w.g (by omega) (by omega)
  rw [show q39 w.r w.s.1 w.s.2.1 w.s.2.2 w.b w.p.bi w.p.bs w.p.bo w.p.rain w.p.loss w.p.dec w.p.high w.p.low w.p.every w.k w.ld.mi w.ld.mo w.ld.ti w.ld.ou w.f w.g=wdOk w from rfl] at eW
  unfold fwT
  cases g:wdOk w
  · rw [g] at eW
    simp (disch:=omega) only [wk,bit,nI,eW]
  rw [g] at eW
  have F:=wdF g
  have s1:=qqh _ F.F.mmem; have s2:=qqh _ F.F.tmem
  have ll:=F.F.len; have ml:=F.F.ml; have tl:=F.F.tl; have bl:=F.F.bl; have rr:=F.F.rr
  have k0:=F.k; have l1:=F.L.mi; have l2:=F.L.mo
  have db:=qi1 F.F
  have fz:=qpb F.F.mesh
  have i1:inI64 w.k=true:=qp1 (by omega)
  have i2:inI64 (isum w.s.2.1)=true:=qp1 (by omega)
  have i3:inI64 (isum w.s.2.2)=true:=qp1 (by omega)
  have i4:inI64 w.ld.mi=true:=qp1 (by omega)
  have i5:inI64 w.ld.mo=true:=qp1 (by omega)
  have i6:inI64 (dig w.s.1 w.s.2.1 w.s.2.2 w.b)=true:=qp1 (by omega)
  have sp:=fun (wd:List UInt8)(x:Int)(h:wd.length≤1000)(hx:inI64 x=true)=>qd8 (k+8) (ba wd) false [x] (by rw [qbd]; exact h) (by simp) (by simp [hx])
  have a1:=sp [115,116,101,112] _ (by decide) i1
  have a2:=sp [109,97,115,115] _ (by decide) i2
  have a3:=sp [116,114,97,99,101,114] _ (by decide) i3
  have a4:=sp [105,110] _ (by decide) i4
  have a5:=sp [111,117,116] _ (by decide) i5
  have a6:=sp [100,105,103,101,115,116] _ (by decide) i6
  clear sp
  simp only [qbc] at a1 a2 a3 a4 a5 a6
  have b1:=qd9 (k+8) (by omega) false w.s.2.1 (by omega) F.F.mmem
  have b2:=qd9 (k+8) (by omega) false w.s.2.2 (by omega) F.F.tmem
  have b3:=qb7 (k+8) w.r false w.s.1 (by omega)
  have b4:=qb0 k (by omega) w.r false false false false w.s.1 w.s.2.1 w.s.2.2 w.b F.F
  have q2:({ data:= #[(109:UInt8),(101:UInt8),(115:UInt8),(104:UInt8),(32:UInt8)] } :ByteArray)=ba [109,101,115,104,32]:=Eq.trans rfl rfl
  simp (disch:=omega) only [wk,bit,nI,eW,a1,b3,b1,a2,b2,a3,a4,a5,b4,a6,q2,qba,qbd,List.length_append,List.length_cons,List.length_nil]
  rfl
end Go.Proofs.YtjfjniebmdafeaaGreatDoor
end
section
namespace Go.Proofs.YtjfjniebmdafeaaGreatDoor
open Go.Ev
set_option maxRecDepth 20000
theorem qka (k:Nat)(a:ByteArray):go (k+1) impl_SplitFields [.str a]=
 cond (decide (600<nI (ByteArray.size a)))
 (some [.arr true true (.strs []),.bool false])
 ((go k slices_ContainsFunc_byte_byte [.arr false false (.ints IntKind.u8 (bytesL a)),.fn impl_SplitFields_1 []]).bind fun r0=>
 cond (bit (nth r0 0))
 (some [.arr true true (.strs []),.bool false])
 ((go k strings_Fields [.str a]).bind fun r1=>
 cond (decide (24<nI (List.length (D.strs (nth r1 0)))))
 (some [.arr true true (.strs []),.bool false])
 (some [.arr true (D.nil (nth r1 0)) (.strs (D.strs (nth r1 0))),.bool true]))):=by kernel_rfl
theorem qkb (k:Nat)(a:Int):go (k+1) impl_SplitFields_1 [.int IntKind.u8 a]=
 cond (decide (a<32))
 (some [.bool true])
 (some [.bool (decide (126<a))]):=by kernel_rfl
theorem qmn (k:Nat)(v0:Bool)(v1:LI):go (k+1) slices_ContainsFunc_byte_byte [.arr false v0 (.ints IntKind.u8 v1),.fn impl_SplitFields_1 []]=
 (go k slices_IndexFunc_byte_byte [.arr false v0 (.ints IntKind.u8 v1),.fn impl_SplitFields_1 []]).bind fun r0=>
 some [.bool (decide (0≤D.toInt (nth r0 0)))]:=by kernel_rfl
def qz8 (x0 x1:Int)(z2:Bool)(l3:LI):St:=⟨fill 19 [(0,.sl 0 none),(1,.fn impl_SplitFields_1 []),(7,.int .i64 x0),(8,.int .i64 x1)],[],[.arr false z2 (.ints IntKind.u8 l3)]⟩
theorem qmp (k:Nat)(v0:Bool)(v1:LI):go (k+1) slices_IndexFunc_byte_byte [.arr false v0 (.ints IntKind.u8 v1),.fn impl_SplitFields_1 []]=
 lp k slices_IndexFunc_byte_byte [] [] 2 k (qz8 (nI (List.length v1)) 0 v0 v1):=by kernel_rfl
theorem qsb (k n:Nat)(fu:FU)(x0 x1:Int)(z2:Bool)(l3:LI):lp k slices_IndexFunc_byte_byte [] fu 2 (n+1) (qz8 x0 x1 z2 l3)=
 cond (decide (x1<x0))
 (cond (decide (0≤x1)&&decide (x1<nI (List.length l3)))
 ((go k impl_SplitFields_1 [.int IntKind.u8 (List.getD l3 (Int.toNat x1) 0)]).bind fun r0=>
 cond (bit (nth r0 0))
 (some [.int .i64 x1])
 (lp k slices_IndexFunc_byte_byte [] fu 2 n (qz8 x0 (IntKind.wrap .i64 (x1+1)) z2 l3)))
 none)
 (some [.int .i64 ((-1:Int))]):=by kernel_rfl
def q0p (x0:ByteArray)(x1 x2:Int)(z3:Bool)(l4:List ByteArray):St:=⟨fill 62 [(0,.str x0),(4,.sl 0 none),(5,.int .i64 x1),(6,.int .i64 x2)],[],[.arr true z3 (.strs l4)]⟩
theorem qnl (k:Nat)(a:ByteArray):go (k+1) spec_SplitFields [.str a]=
 cond (decide (600<nI (ByteArray.size a)))
 (some [.arr true false (.strs []),.bool false])
 (lp k spec_SplitFields [] [] 6 k (q0p a 0 0 false [])):=by kernel_rfl
theorem qss (k n:Nat)(fu:FU)(x0:ByteArray)(x1 x2:Int)(z3:Bool)(l4:List ByteArray):lp k spec_SplitFields [] fu 6 (n+1) (q0p x0 x1 x2 z3 l4)=
 cond (decide (x2≤nI (ByteArray.size x0)))
 (cond (decide (x2<nI (ByteArray.size x0)))
 (cond (decide (0≤x2)&&decide (x2<nI (ByteArray.size x0)))
 (cond (decide (strAt x0 (Int.toNat x2)<32))
 (some [.arr true false (.strs []),.bool false])
 (cond (decide (0≤x2)&&decide (x2<nI (ByteArray.size x0)))
 (cond (decide (126<strAt x0 (Int.toNat x2)))
 (some [.arr true false (.strs []),.bool false])
 (cond (decide (x2<nI (ByteArray.size x0)))
 (cond (decide (0≤x2)&&decide (x2<nI (ByteArray.size x0)))
 (cond (!decide (strAt x0 (Int.toNat x2)=32))
 (lp k spec_SplitFields [] fu 6 n (q0p x0 x1 (IntKind.wrap .i64 (x2+1)) z3 l4))
 (cond (decide (x1<x2))
 (cond (decide (0≤x1)&&decide (x1≤x2)&&decide (x2≤nI (ByteArray.size x0)))
 (cond (decide (List.length (l4++[ByteArray.extract x0 (Int.toNat x1) (Int.toNat x2)])≤bigLen))
 (lp k spec_SplitFields [] fu 6 n (q0p x0 (IntKind.wrap .i64 (x2+1)) (IntKind.wrap .i64 (x2+1)) (z3&&decide (List.length (l4++[ByteArray.extract x0 (Int.toNat x1) (Int.toNat x2)])=0)) (l4++[ByteArray.extract x0 (Int.toNat x1) (Int.toNat x2)])))
 none)
 none)
 (lp k spec_SplitFields [] fu 6 n (q0p x0 (IntKind.wrap .i64 (x2+1)) (IntKind.wrap .i64 (x2+1)) z3 l4))))
 none)
 (cond (decide (x1<x2))
 (cond (decide (0≤x1)&&decide (x1≤x2)&&decide (x2≤nI (ByteArray.size x0)))
 (cond (decide (List.length (l4++[ByteArray.extract x0 (Int.toNat x1) (Int.toNat x2)])≤bigLen))
 (lp k spec_SplitFields [] fu 6 n (q0p x0 (IntKind.wrap .i64 (x2+1)) (IntKind.wrap .i64 (x2+1)) (z3&&decide (List.length (l4++[ByteArray.extract x0 (Int.toNat x1) (Int.toNat x2)])=0)) (l4++[ByteArray.extract x0 (Int.toNat x1) (Int.toNat x2)])))
 none)
 none)
 (lp k spec_SplitFields [] fu 6 n (q0p x0 (IntKind.wrap .i64 (x2+1)) (IntKind.wrap .i64 (x2+1)) z3 l4)))))
 none))
 none)
 (cond (decide (x2<nI (ByteArray.size x0)))
 (cond (decide (0≤x2)&&decide (x2<nI (ByteArray.size x0)))
 (cond (!decide (strAt x0 (Int.toNat x2)=32))
 (lp k spec_SplitFields [] fu 6 n (q0p x0 x1 (IntKind.wrap .i64 (x2+1)) z3 l4))
 (cond (decide (x1<x2))
 (cond (decide (0≤x1)&&decide (x1≤x2)&&decide (x2≤nI (ByteArray.size x0)))
 (cond (decide (List.length (l4++[ByteArray.extract x0 (Int.toNat x1) (Int.toNat x2)])≤bigLen))
 (lp k spec_SplitFields [] fu 6 n (q0p x0 (IntKind.wrap .i64 (x2+1)) (IntKind.wrap .i64 (x2+1)) (z3&&decide (List.length (l4++[ByteArray.extract x0 (Int.toNat x1) (Int.toNat x2)])=0)) (l4++[ByteArray.extract x0 (Int.toNat x1) (Int.toNat x2)])))
 none)
 none)
 (lp k spec_SplitFields [] fu 6 n (q0p x0 (IntKind.wrap .i64 (x2+1)) (IntKind.wrap .i64 (x2+1)) z3 l4))))
 none)
 (cond (decide (x1<x2))
 (cond (decide (0≤x1)&&decide (x1≤x2)&&decide (x2≤nI (ByteArray.size x0)))
 (cond (decide (List.length (l4++[ByteArray.extract x0 (Int.toNat x1) (Int.toNat x2)])≤bigLen))
 (lp k spec_SplitFields [] fu 6 n (q0p x0 (IntKind.wrap .i64 (x2+1)) (IntKind.wrap .i64 (x2+1)) (z3&&decide (List.length (l4++[ByteArray.extract x0 (Int.toNat x1) (Int.toNat x2)])=0)) (l4++[ByteArray.extract x0 (Int.toNat x1) (Int.toNat x2)])))
 none)
 none)
 (lp k spec_SplitFields [] fu 6 n (q0p x0 (IntKind.wrap .i64 (x2+1)) (IntKind.wrap .i64 (x2+1)) z3 l4)))))
 (cond (decide (24<nI (List.length l4)))
 (some [.arr true false (.strs []),.bool false])
 (some [.arr true z3 (.strs l4),.bool true])):=by kernel_rfl
def q04 (x0:ByteArray)(x1 x2:Int):St:=⟨fill 34 [(0,.str x0),(3,.int .i64 x1),(4,.int .i64 x2)],[],[]⟩
theorem qoj (k:Nat)(a:ByteArray):go (k+1) spec_l26Number [.str a]=
 cond (decide (nI (ByteArray.size a)=0))
 (some [.int .i64 ((-1:Int))])
 (cond (decide (12<nI (ByteArray.size a)))
 (some [.int .i64 ((-1:Int))])
 (lp k spec_l26Number [] [] 5 k (q04 a 0 0))):=by kernel_rfl
theorem qs7 (k n:Nat)(fu:FU)(x0:ByteArray)(x1 x2:Int):lp k spec_l26Number [] fu 5 (n+1) (q04 x0 x1 x2)=
 cond (decide (x2<nI (ByteArray.size x0)))
 (cond (decide (0≤x2)&&decide (x2<nI (ByteArray.size x0)))
 ((go k spec_l01In [.int .i64 (IntKind.wrap .i64 (strAt x0 (Int.toNat x2))),.int .i64 48,.int .i64 57]).bind fun r0=>
 cond (!bit (nth r0 0))
 (some [.int .i64 ((-1:Int))])
 (cond (decide (0≤x2)&&decide (x2<nI (ByteArray.size x0)))
 (lp k spec_l26Number [] fu 5 n (q04 x0 (IntKind.wrap .i64 (IntKind.wrap .i64 (IntKind.wrap .i64 (10*x1)+IntKind.wrap .i64 (strAt x0 (Int.toNat x2))) - 48)) (IntKind.wrap .i64 (x2+1))))
 none))
 none)
 (some [.int .i64 x1]):=by kernel_rfl
def q0b (x0:ByteArray)(x1 x2:Int)(z3:Bool)(l4:List ByteArray):St:=⟨fill 19 [(0,.sl 0 none),(1,.str x0),(7,.int .i64 x1),(8,.int .i64 x2)],[],[.arr false z3 (.strs l4)]⟩
theorem qms (k:Nat)(az:Bool)(a:List ByteArray)(b:ByteArray):go (k+1) slices_Index_string_string [.arr false az (.strs a),.str b]=
 lp k slices_Index_string_string [] [] 2 k (q0b b (nI (List.length a)) 0 az a):=by kernel_rfl
theorem qse (k n:Nat)(fu:FU)(x0:ByteArray)(x1 x2:Int)(z3:Bool)(l4:List ByteArray):lp k slices_Index_string_string [] fu 2 (n+1) (q0b x0 x1 x2 z3 l4)=
 cond (decide (x2<x1))
 (cond (decide (0≤x2)&&decide (x2<nI (List.length l4)))
 (cond (decide (x0=List.getD l4 (Int.toNat x2) ByteArray.empty))
 (some [.int .i64 x2])
 (lp k slices_Index_string_string [] fu 2 n (q0b x0 x1 (IntKind.wrap .i64 (x2+1)) z3 l4)))
 none)
 (some [.int .i64 ((-1:Int))]):=by kernel_rfl
def qzf (n0:Nat)(x1 x2 x3 x4 x5 x6:Int)(z7:Bool)(l8:List ByteArray)(x9 x10 x11 x12:Int):St:=⟨fill 76 [(2,.ptr 0 0 0),(4,.sl 1 none),(6,.ptr 2 0 0),(42,.bsl 3 n0),(43,.int .i64 x1),(44,.int .i64 x2)],[],[.box true [.int .i64 x3,.int .i64 x4,.int .i64 x5,.int .i64 x6],.arr true z7 (.strs l8),.box true [.int .i64 x9,.int .i64 x10,.int .i64 x11,.int .i64 x12],.box true [.ptr 2 0 1,.ptr 2 0 2,.ptr 2 0 3]]⟩
theorem qj4 (k:Nat)(a:ByteArray):go (k+1) impl_ParseAct [.str a]=
 (go k impl_SplitFields [.str a]).bind fun r0=>
 cond (!bit (nth r0 1))
 (some [.agg [.int .i64 0,.int .i64 0,.int .i64 0,.int .i64 0],.bool false])
 (cond (decide (nI (List.length (D.strs (nth r0 0)))<2))
 (some [.agg [.int .i64 0,.int .i64 0,.int .i64 0,.int .i64 0],.bool false])
 (cond (decide (4<nI (List.length (D.strs (nth r0 0)))))
 (some [.agg [.int .i64 0,.int .i64 0,.int .i64 0,.int .i64 0],.bool false])
 ((go k impl_actNames []).bind fun r1=>
 cond (decide (0≤0)&&decide (0<nI (List.length (D.strs (nth r0 0)))))
 ((go k slices_Index_string_string [.arr false (D.nil (nth r1 0)) (.strs (D.strs (nth r1 0))),.str (List.getD (D.strs (nth r0 0)) (Int.toNat 0) ByteArray.empty)]).bind fun r2=>
 cond (Nat.beq (Program.cellsOf Proofs.Tryz.prog 139) 1&&(decide (0≤IntKind.wrap .i64 (nI (List.length (D.strs (nth r0 0))) - 1))&&decide (IntKind.wrap .i64 (nI (List.length (D.strs (nth r0 0))) - 1)≤nI 3)))
 (lp k impl_ParseAct [] [] 6 k (qzf (Int.toNat (IntKind.wrap .i64 (nI (List.length (D.strs (nth r0 0))) - 1))) (nI (Int.toNat (IntKind.wrap .i64 (nI (List.length (D.strs (nth r0 0))) - 1)))) 0 0 0 0 0 (D.nil (nth r0 0)) (D.strs (nth r0 0)) (D.toInt (nth r2 0)) 0 0 0))
 none)
 none))):=by kernel_rfl
def q0k (x0:ByteArray)(x1 x2 x3 x4 x5:Int)(z6:Bool)(l7:LI):St:=⟨fill 83 [(2,.ptr 0 0 0),(6,.str x0),(7,.sl 1 none),(9,.int .i64 x1)],[],[.box true [.int .i64 x2,.int .i64 x3,.int .i64 x4,.int .i64 x5],.arr true z6 (.ints .i64 l7)]⟩
def q0l (x0:ByteArray)(x1 x2 x3 x4 x5:Int)(z6:Bool)(l7:List ByteArray)(z8:Bool)(l9:LI):St:=⟨fill 83 [(2,.ptr 0 0 0),(4,.sl 1 none),(6,.str x0),(7,.sl 2 none),(8,.int .i64 x1)],[],[.box true [.int .i64 x2,.int .i64 x3,.int .i64 x4,.int .i64 x5],.arr true z6 (.strs l7),.arr true z8 (.ints .i64 l9)]⟩
theorem qnf (k:Nat)(a:ByteArray):go (k+1) spec_ParseAct [.str a]=
 (go k spec_SplitFields [.str a]).bind fun r0=>
 cond (!bit (nth r0 1))
 (some [.agg [.int .i64 0,.int .i64 0,.int .i64 0,.int .i64 0],.bool false])
 ((go k spec_l01In [.int .i64 (nI (List.length (D.strs (nth r0 0)))),.int .i64 2,.int .i64 4]).bind fun r1=>
 cond (!bit (nth r1 0))
 (some [.agg [.int .i64 0,.int .i64 0,.int .i64 0,.int .i64 0],.bool false])
 (cond (decide (0≤0)&&decide (0<nI (List.length (D.strs (nth r0 0)))))
 (lp k spec_ParseAct [] [] 7 k (q0l (List.getD (D.strs (nth r0 0)) (Int.toNat 0) ByteArray.empty) 1 0 0 0 0 (D.nil (nth r0 0)) (D.strs (nth r0 0)) false []))
 none)):=by kernel_rfl
theorem qsn (k n:Nat)(fu:FU)(x0:ByteArray)(x1 x2 x3 x4 x5:Int)(z6:Bool)(l7:LI):lp k spec_ParseAct [] fu 13 (n+1) (q0k x0 x1 x2 x3 x4 x5 z6 l7)=
 cond (decide (x1≤7))
 (cond (decide (0≤0)&&decide (0<nI (List.length l7)))
 (cond (decide (0≤1)&&decide (1<nI (List.length l7)))
 (cond (decide (0≤2)&&decide (2<nI (List.length l7)))
 ((go k spec_FormatAct [.agg [.int .i64 x1,.int .i64 (List.getD l7 (Int.toNat 0) 0),.int .i64 (List.getD l7 (Int.toNat 1) 0),.int .i64 (List.getD l7 (Int.toNat 2) 0)]]).bind fun r0=>
 cond (bit (nth r0 1))
 (cond (decide (D.toStr (nth r0 0)=x0))
 (some [.agg [.int .i64 x1,.int .i64 (List.getD l7 (Int.toNat 0) 0),.int .i64 (List.getD l7 (Int.toNat 1) 0),.int .i64 (List.getD l7 (Int.toNat 2) 0)],.bool true])
 (lp k spec_ParseAct [] fu 13 n (q0k x0 (IntKind.wrap .i64 (x1+1)) x2 x3 x4 x5 z6 l7)))
 (lp k spec_ParseAct [] fu 13 n (q0k x0 (IntKind.wrap .i64 (x1+1)) x2 x3 x4 x5 z6 l7)))
 none)
 none)
 none)
 (some [.agg [.int .i64 0,.int .i64 0,.int .i64 0,.int .i64 0],.bool false]):=by kernel_rfl
theorem qso (k n:Nat)(fu:FU)(x0:ByteArray)(x1 x2 x3 x4 x5:Int)(z6:Bool)(l7:List ByteArray)(z8:Bool)(l9:LI):lp k spec_ParseAct [] fu 7 (n+1) (q0l x0 x1 x2 x3 x4 x5 z6 l7 z8 l9)=
 cond (decide (x1<nI (List.length l7)))
 (cond (decide (ByteArray.size x0+ByteArray.size { data:= #[(32:UInt8)] } ≤4611686018427387904))
 (cond (decide (0≤x1)&&decide (x1<nI (List.length l7)))
 (cond (decide (ByteArray.size (x0++ { data:= #[(32:UInt8)] })+ByteArray.size (List.getD l7 (Int.toNat x1) ByteArray.empty)≤4611686018427387904))
 (cond (decide (0≤x1)&&decide (x1<nI (List.length l7)))
 ((go k spec_l26Number [.str (List.getD l7 (Int.toNat x1) ByteArray.empty)]).bind fun r0=>
 cond (decide (List.length (l9++[D.toInt (nth r0 0)])≤bigLen))
 (lp k spec_ParseAct [] fu 7 n (q0l (x0++ { data:= #[(32:UInt8)] } ++List.getD l7 (Int.toNat x1) ByteArray.empty) (IntKind.wrap .i64 (x1+1)) x2 x3 x4 x5 z6 l7 (z8&&decide (List.length (l9++[D.toInt (nth r0 0)])=0)) (l9++[D.toInt (nth r0 0)])))
 none)
 none)
 none)
 none)
 none)
 (cond (decide (List.length (l9++[0,0])≤bigLen))
 (lp k spec_ParseAct [] fu 13 k (q0k x0 1 x2 x3 x4 x5 (z8&&decide (List.length (l9++[0,0])=0)) (l9++[0,0])))
 none):=by kernel_rfl
end Go.Proofs.YtjfjniebmdafeaaGreatDoor
end
section
namespace Go.Proofs.YtjfjniebmdafeaaGreatDoor
open Go.Ev
abbrev okc (b:UInt8):Bool:=decide (32≤b.toNat)&&decide (b.toNat≤126)
abbrev wdc (b:UInt8):Bool:=decide (33≤b.toNat)&&decide (b.toNat≤126)
def isWd (w:List UInt8):Bool:=!w.isEmpty&&w.all wdc
theorem q1s {b:UInt8}(h:wdc b=true):Lib.isSp b=false:=by
  simp only [wdc,Bool.and_eq_true,decide_eq_true_eq] at h
  unfold Lib.isSp
  have n: ∀ k:UInt8,k.toNat<33→(b == k)=false:=fun k hk=>by
    rw [beq_eq_false_iff_ne]; rintro rfl; omega
  rw [n 9 (by decide),n 10 (by decide),n 11 (by decide),n 12 (by decide),n 13 (by decide),n 32 (by decide)]; rfl
theorem q1r:Lib.isSp 32=true:=by decide
theorem qw4 {b:UInt8}(h:okc b=true)(n:¬ b=32):wdc b=true:=by
  simp only [okc,wdc,Bool.and_eq_true,decide_eq_true_eq] at h ⊢
  have:b.toNat≠32:=fun e=>n (UInt8.toNat_inj.1 e)
  omega
theorem qpq: ∀ (w cur rest:List UInt8),w.all wdc=true→Lib.fieldsGo cur (w++rest)=Lib.fieldsGo (cur++w) rest
  | [],cur,rest,h=>by simp
  | b::w,cur,rest,h=>by
    rw [List.all_cons,Bool.and_eq_true] at h
    rw [List.cons_append,Lib.fieldsGo_more _ _ _ (q1s h.1),qpq w _ rest h.2,List.append_assoc]; rfl
theorem qo2: ∀ (r:List (List UInt8))(x:List UInt8),isWd x=true→r.all isWd=true→Lib.fieldsGo [] (x++Lib.joinTail [32] r)=x::r
  | [],x,hx,hr=>by
    simp only [isWd,Bool.and_eq_true] at hx
    rw [qpq _ _ _ hx.2]
    cases x with
    | nil=>simp at hx
    | cons a x=>rfl
  | y::r,x,hx,hr=>by
    rw [List.all_cons,Bool.and_eq_true] at hr
    have ih:=qo2 r y hr.1 hr.2
    simp only [isWd,Bool.and_eq_true] at hx
    have e:Lib.joinTail [32] (y::r)=32::(y++Lib.joinTail [32] r):=by simp [Lib.joinTail]
    rw [e,qpq _ _ _ hx.2,List.nil_append,Lib.fieldsGo_end x 32 _ q1r (by rintro rfl; simp at hx),ih]
theorem qoz (ws:List (List UInt8))(h:ws.all isWd=true):Lib.fields (Lib.join ws [32])=ws:=by
  cases ws with
  | nil=>rfl
  | cons x r=>
    rw [List.all_cons,Bool.and_eq_true] at h
    rw [Lib.join_cons]
    exact qo2 r x h.1 h.2
theorem qoy: ∀ (l cur:List UInt8),l.all okc=true→cur.all wdc=true→(Lib.fieldsGo cur l).all isWd=true
  | [],cur,hl,hc=>by
    cases cur with
    | nil=>rfl
    | cons a x=>simp only [Lib.fieldsGo,List.isEmpty_cons,Bool.false_eq_true,if_false,List.all_cons,List.all_nil,Bool.and_true,isWd,Bool.not_false,Bool.true_and]; simpa using hc
  | b::l,cur,hl,hc=>by
    rw [List.all_cons,Bool.and_eq_true] at hl
    by_cases g:b=32
    · subst g
      cases cur with
      | nil=>rw [Lib.fieldsGo_sp _ _ q1r]; exact qoy l [] hl.2 rfl
      | cons a x=>
        rw [Lib.fieldsGo_end _ _ _ q1r (by simp),List.all_cons,qoy l [] hl.2 rfl,Bool.and_true]
        simp only [isWd,List.isEmpty_cons,Bool.not_false,Bool.true_and]; exact hc
    · have w:=qw4 hl.1 g
      rw [Lib.fieldsGo_more _ _ _ (q1s w)]
      refine qoy l _ hl.2 ?_
      rw [List.all_append,hc,List.all_cons,w]; rfl
theorem qo3 {s:List UInt8}(h:s.all okc=true):(Lib.fields s).all isWd=true:=qoy s [] h rfl
theorem qox: ∀ (l cur:List UInt8),∀ w∈Lib.fieldsGo cur l,w.length≤cur.length+l.length
  | [],cur,w,h=>by
    cases cur with
    | nil=>simp [Lib.fieldsGo] at h
    | cons a x=>simp [Lib.fieldsGo] at h; subst h; simp
  | b::l,cur,w,h=>by
    unfold Lib.fieldsGo at h
    split at h
    · split at h
      · have:=qox l [] w h; simp only [List.length_nil,List.length_cons] at*; omega
      · rcases List.mem_cons.1 h with rfl | h
        · omega
        · have:=qox l [] w h; simp only [List.length_nil,List.length_cons] at*; omega
    · have:=qox l _ w h
      simp only [List.length_append,List.length_cons,List.length_nil] at*; omega
theorem qo1 {s w:List UInt8}(h:w∈Lib.fields s):w.length≤s.length:=by
  have:=qox s [] w h; simpa using this
def isDg (b:UInt8):Bool:=decide (48≤b.toNat)&&decide (b.toNat≤57)
theorem qiz (m:Nat):(UInt8.ofNat (48+m % 10)).toNat=48+m % 10:=by
  rw [UInt8.toNat_ofNat']; omega
theorem qiu: ∀ (m:Nat),(decD m).all isDg=true:=by
  intro m
  induction m using Nat.strongRecOn with
  | _ m ih=>
    rw [decD]
    split
    · rfl
    · rw [List.all_append,ih (m / 10) (by omega),List.all_cons,List.all_nil]
      simp only [isDg,qiz,Bool.and_true,Bool.true_and,Bool.and_eq_true,decide_eq_true_eq]; omega
def qws (acc:Int):List UInt8→Int
  | []=>acc
  | c::r=>cond (isDg c) (qws (10*acc+(c.toNat:Int) - 48) r) (-1)
def l26V (s:List UInt8):Int:=cond (decide (s.length=0)||decide (12<s.length)) (-1) (qws 0 s)
theorem qwu: ∀ (x:List UInt8)(acc:Int)(c:UInt8),x.all isDg=true→isDg c=true→qws acc (x++[c])=10*qws acc x+(c.toNat:Int) - 48
  | [],acc,c,h,hc=>by simp only [List.nil_append,qws,hc,qik]
  | b::x,acc,c,h,hc=>by
    rw [List.all_cons,Bool.and_eq_true] at h
    simp only [List.cons_append,qws,h.1,qik]
    exact qwu x _ c h.2 hc
theorem qwt: ∀ (m:Nat),qws 0 (decD m)=(m:Int):=by
  intro m
  induction m using Nat.strongRecOn with
  | _ m ih=>
    rw [decD]
    split
    · rename_i h; subst h; rfl
    · have d:isDg (UInt8.ofNat (48+m % 10))=true:=by simp only [isDg,qiz,Bool.and_eq_true,decide_eq_true_eq]; omega
      rw [qwu _ _ _ (qiu _) d,ih (m / 10) (by omega),qiz]; omega
theorem qit: ∀ (x:List UInt8)(acc v:Nat)(c:UInt8),Lib.decFrom acc x=some v→isDg c=true→Lib.decFrom acc (x++[c])=some (v*10+(c.toNat - 48))
  | [],acc,v,c,h,hc=>by
    simp only [Lib.decFrom,Option.some.injEq] at h
    subst h
    simp only [isDg,Bool.and_eq_true,decide_eq_true_eq] at hc
    simp [Lib.decFrom,Lib.digitVal,hc]
  | b::x,acc,v,c,h,hc=>by
    simp only [List.cons_append,Lib.decFrom] at h ⊢
    split at h
    · exact qit x _ v c h hc
    · cases h
theorem qis: ∀ (m:Nat),Lib.decFrom 0 (decD m)=some m:=by
  intro m
  induction m using Nat.strongRecOn with
  | _ m ih=>
    rw [decD]
    split
    · rename_i h; subst h; rfl
    · have d:isDg (UInt8.ofNat (48+m % 10))=true:=by simp only [isDg,qiz,Bool.and_eq_true,decide_eq_true_eq]; omega
      rw [qit _ _ _ _ (ih (m / 10) (by omega)) d,qiz]; congr 1; omega
theorem qiv {m:Nat}(h:m≠0):decD m≠[]:=by
  rw [decD,dif_neg h]; simp
theorem qqo {n:Int}(h:0≤n):Lib.itoa n=if n.toNat=0 then [48] else decD n.toNat:=by
  unfold Lib.itoa
  rw [if_neg (by omega)]
  split
  · rename_i e; rw [e]; exact Lib.decDigits_one (by omega)
  · rename_i e; exact (qir _ e).symm
theorem qqp {n:Int}(h:0≤n):(Lib.itoa n).all isDg=true:=by
  rw [qqo h]; split
  · rfl
  · exact qiu _
theorem qqs {n:Int}(h:0≤n):Lib.itoa n≠[]:=by
  rw [qqo h]; split
  · simp
  · rename_i e; exact qiv e
theorem qi0 {b:UInt8}(h:isDg b=true):wdc b=true:=by
  simp only [isDg,wdc,Bool.and_eq_true,decide_eq_true_eq] at h ⊢; omega
theorem qqu {n:Int}(h:0≤n):isWd (Lib.itoa n)=true:=by
  unfold isWd
  rw [Bool.and_eq_true]
  refine ⟨by cases e:Lib.itoa n with | nil=>exact absurd e (qqs h) | cons _ _=>rfl,?_⟩
  rw [List.all_eq_true]
  intro b hb
  exact qi0 (List.all_eq_true.1 (qqp h) b hb)
theorem qqr {n:Int}(h:0≤n∧n≤1000000):l26V (Lib.itoa n)=n:=by
  have l:(Lib.itoa n).length≤12:=by
    rw [qqo h.1]; split
    · simp
    · rename_i e
      rw [qir _ e,Lib.decDigits_length]
      have:=qwj 6 n.toNat (by omega)
      omega
  have ne:(Lib.itoa n).length≠0:=fun e=>qqs h.1 (List.eq_nil_of_length_eq_zero e)
  unfold l26V
  rw [decide_eq_false ne,decide_eq_false (by omega:¬ 12<(Lib.itoa n).length),Bool.or_false,qii,qqo h.1]
  split
  · rename_i e; simp [qws,isDg]; omega
  · rw [qwt]; omega
theorem qqm {n:Int}(h:0≤n∧n≤1000000):atoiV (Lib.itoa n)=n:=by
  have l:(Lib.itoa n).length≤18:=by
    rw [qqo h.1]; split
    · simp
    · rename_i e
      rw [qir _ e,Lib.decDigits_length]
      have:=qwj 6 n.toNat (by omega)
      omega
  have dn:Lib.decNat (Lib.itoa n)=some n.toNat:=by
    have ne:=qqs h.1
    unfold Lib.decNat
    rw [if_neg (by cases e:Lib.itoa n with | nil=>exact absurd e ne | cons _ _=>simp),qqo h.1]
    split
    · rename_i e; rw [e]; rfl
    · exact qis _
  have at1:Lib.atoi (Lib.itoa n)=some n:=by
    have dg:=qqp h.1
    cases e:Lib.itoa n with
    | nil=>exact absurd e (qqs h.1)
    | cons b r=>
      rw [e] at dg dn
      rw [List.all_cons,Bool.and_eq_true] at dg
      have d:=dg.1
      simp only [isDg,Bool.and_eq_true,decide_eq_true_eq] at d
      have n1:(b == 45)=false:=by rw [beq_eq_false_iff_ne]; rintro rfl; exact absurd d.1 (by decide)
      have n2:(b == 43)=false:=by rw [beq_eq_false_iff_ne]; rintro rfl; exact absurd d.1 (by decide)
      simp only [Lib.atoi,n1,n2,Bool.false_eq_true,if_false,dn,Option.map_some]
      congr 1; omega
  unfold atoiV
  rw [Lib.atoiAll_short _ l,at1]; rfl
end Go.Proofs.YtjfjniebmdafeaaGreatDoor
end
section
namespace Go.Proofs.YtjfjniebmdafeaaGreatDoor
open Go.Ev
set_option maxRecDepth 20000
def q1w (s:List UInt8):Bool:=decide (s.length≤600)&&(s.all okc&&decide ((Lib.fields s).length≤24))
theorem q2h (s:List UInt8)(i:Nat):strAt (ba s) i=((s.getD i 0).toNat:Int):=Eq.trans rfl rfl
theorem qp6 (s:List UInt8)(i:Nat):(qp5 s).getD i 0=((s.getD i 0).toNat:Int):=by
  unfold qp5
  rw [List.getD_eq_getElem?_getD,List.getElem?_map,List.getD_eq_getElem?_getD]
  cases s[i]? <;>rfl
theorem qw3 (b:UInt8):okc b=(decide ((32:Int)≤(b.toNat:Int))&&decide ((b.toNat:Int)≤126)):=by
  unfold okc
  congr 1<;>rw [decide_eq_decide]<;>omega
theorem qct (k:Nat)(hk:2000000≤k)(b:UInt8):go (k+1) impl_SplitFields_1 [.int .u8 (b.toNat:Int)]=some [.bool (!okc b)]:=by
  rw [qkb,qw3]
  by_cases h1:(b.toNat:Int)<32
  · simp (disch:=omega) only [wk,bit,nI]
  · by_cases h2:(126:Int)<(b.toNat:Int)
    · simp (disch:=omega) only [wk,bit,nI]
    · simp (disch:=omega) only [wk,bit,nI]
theorem qt6 (k:Nat)(hk:2000000≤k)(fu:List (Nat×Nat))(z:Bool)(s:List UInt8)(hs:s.length≤600): ∀ (N i:Nat),i≤s.length→s.length - i<N→
    ∃ x,lp (k+1) slices_IndexFunc_byte_byte [] fu 2 (N) (qz8 (s.length:Int) (i:Int) z (qp5 s))=some [.int .i64 x]∧decide (0≤x)= !(s.drop i).all okc
  | 0,i,hi,hN=>by omega
  | N+1,i,hi,hN=>by
    rw [qsb]
    have li:=qqa s
    by_cases g:i<s.length
    · have c:=qct k (by omega) (s.getD i 0)
      rw [← qp6] at c
      rw [qi5 g 0,List.all_cons]
      cases h:okc (s.getD i 0)
      · rw [h] at c
        refine ⟨(i:Int),?_,by simp⟩
        simp (disch:=omega) only [wk,bit,nI,li,c]
      · rw [h] at c
        obtain ⟨x,e,hx⟩:=qt6 k hk fu z s hs N (i+1) (by omega) (by omega)
        refine ⟨x,?_,by rw [Bool.true_and]; exact hx⟩
        simp (disch:=omega) only [wk,bit,nI,li,c]
        exact e
    · rw [List.drop_of_length_le (by omega)]
      refine ⟨-1,?_,by decide⟩
      simp (disch:=omega) only [wk,bit,nI,li]
theorem qbv (k:Nat)(hk:2000000≤k)(z:Bool)(s:List UInt8)(hs:s.length≤600):go (k+3) slices_ContainsFunc_byte_byte [.arr false z (.ints .u8 (qp5 s)),.fn impl_SplitFields_1 []]=some [.bool (!s.all okc)]:=by
  rw [qmn]
  have e:=qmp (k+1) z (qp5 s)
  obtain ⟨x,e2,hx⟩:=qt6 k hk [] z s hs (k+1) 0 (by omega) (by omega)
  rw [List.drop_zero] at hx
  rw [qqa] at e
  rw [show ((0:Nat):Int)=0 from rfl] at e2
  rw [e2] at e
  simp (disch:=omega) only [wk,bit,nI,e,hx]
theorem qcs (k:Nat)(hk:2000000≤k)(s:List UInt8)(hs:s.length≤1048576):go (k+4) impl_SplitFields [.str (ba s)]=cond (q1w s) (some [.arr true false (.strs (wordsL s)),.bool true]) (some [.arr true true (.strs []),.bool false]):=by
  rw [qka]
  have sz:=qbd s
  unfold q1w
  by_cases h:s.length≤600
  · have cF:=qbv k (by omega) false s h
    have wl:(wordsL s).length=(Lib.fields s).length:=List.length_map ..
    have bb:=qbs s
    cases ha:s.all okc
    · rw [ha] at cF
      simp (disch:=omega) only [wk,bit,nI,sz,bb,cF]
    · rw [ha] at cF
      have h128:((ba s).data.toList.all fun b=>decide (b.toNat<128))=true:=by
        rw [qbc,List.all_eq_true] at*
        intro b hb
        have:=ha b hb
        simp only [okc,Bool.and_eq_true,decide_eq_true_eq] at this ⊢
        omega
      have cW:=qhg (k+2) (ba s) (by rw [sz]; omega) h128
      rw [qbc] at cW
      by_cases h24:(Lib.fields s).length≤24
      · simp (disch:=omega) only [wk,bit,nI,sz,bb,cF,cW,wl]
      · simp (disch:=omega) only [wk,bit,nI,sz,bb,cF,cW,wl]
  · simp (disch:=omega) only [wk,bit,nI,sz]
abbrev baL (l:List (List UInt8)):List ByteArray:=l.map fun w=>⟨w.toArray⟩
theorem qor (s:List UInt8)(b i:Nat):ByteArray.extract (ba s) b i=ba ((s.drop b).take (i - b)):=by
  have h:=Lib.extract_data (ba s) b i
  rw [qbc] at h
  rw [← Lib.mk_data (ByteArray.extract (ba s) b i),h]
theorem qy7 (k:Nat)(hk:2000000≤k)(fu:List (Nat×Nat))(s:List UInt8)(hs:s.length≤600)(b:Nat)(N:Nat)(l:List ByteArray)(hl:l=baL (Lib.fields s)):
    lp k spec_SplitFields [] fu 6 (N+1) (q0p (ba s) (b:Int) ((s.length+1:Nat):Int) false l)=cond (decide ((Lib.fields s).length≤24)) (some [.arr true false (.strs (wordsL s)),.bool true]) (some [.arr true false (.strs []),.bool false]):=by
  subst hl
  rw [qss]
  have sz:=qbd s
  have wl:(baL (Lib.fields s)).length=(Lib.fields s).length:=List.length_map ..
  by_cases h24:(Lib.fields s).length≤24
  · simp (disch:=omega) only [wk,bit,nI,sz,wl]
    rfl
  · simp (disch:=omega) only [wk,bit,nI,sz,wl]
theorem qu8 (k:Nat)(hk:2000000≤k)(fu:List (Nat×Nat))(s:List UInt8)(hs:s.length≤600): ∀ (N i b:Nat)(out:List (List UInt8)),i≤s.length→s.length+1 - i<N→b≤i→out++Lib.fieldsGo ((s.drop b).take (i - b)) (s.drop i)=Lib.fields s→out.length≤i→
    lp k spec_SplitFields [] fu 6 (N) (q0p (ba s) (b:Int) (i:Int) false (baL out))=cond ((s.drop i).all okc&&decide ((Lib.fields s).length≤24)) (some [.arr true false (.strs (wordsL s)),.bool true]) (some [.arr true false (.strs []),.bool false])
  | 0,i,b,out,hi,hN,hb,he,ho=>by omega
  | N+1,i,b,out,hi,hN,hb,he,ho=>by
    rw [qss]
    have sz:=qbd s
    have ol:(baL out).length=out.length:=List.length_map ..
    have bl:bigLen=1099511627776:=rfl
    have xe:=qor s b i
    by_cases g:i<s.length
    · have sa:=q2h s i
      rw [qi5 g 0,List.all_cons]
      obtain ⟨c,hc⟩: ∃ c,s.getD i 0=c:=⟨_,rfl⟩
      rw [hc] at sa ⊢
      rw [qi5 g 0,hc] at he
      have tk:(s.drop b).take (i+1 - b)=(s.drop b).take (i - b)++[c]:=by
        have hl:i - b<(s.drop b).length:=by rw [List.length_drop]; omega
        rw [show i+1 - b=i - b+1 by omega,List.take_succ_eq_append_getElem hl]
        congr 2
        rw [List.getElem_drop,← hc]
        simp [List.getD_eq_getElem?_getD,show b+(i - b)=i by omega,g]
      by_cases h1:(c.toNat:Int)<32
      · have:okc c=false:=by rw [qw3,dF (by omega:¬ (32:Int)≤(c.toNat:Int))]; rfl
        rw [this]
        simp (disch:=omega) only [wk,bit,nI,sz,sa]
      by_cases h2:(126:Int)<(c.toNat:Int)
      · have:okc c=false:=by rw [qw3,dF (by omega:¬ (c.toNat:Int)≤126),Bool.and_false]
        rw [this]
        simp (disch:=omega) only [wk,bit,nI,sz,sa]
      have ok:okc c=true:=by rw [qw3,dT (by omega),dT (by omega)]; rfl
      rw [ok,Bool.true_and]
      by_cases h3:c=32
      · have c32:(c.toNat:Int)=32:=by rw [h3]; rfl
        by_cases h4:b<i
        · have ne:(s.drop b).take (i - b)≠[]:=by
            intro e
            have:=congrArg List.length e
            rw [List.length_take,List.length_drop,List.length_nil] at this
            omega
          have he2:=he
          rw [h3,Lib.fieldsGo_end _ _ _ q1r ne] at he2
          have IH:=qu8 k hk fu s hs N (i+1) (i+1) (out++[(s.drop b).take (i - b)]) (by omega) (by omega) (by omega) (by rw [Nat.sub_self,List.take_zero,List.append_assoc]; exact he2) (by simp; omega)
          rw [show baL (out++[(s.drop b).take (i - b)])=baL out++[ba ((s.drop b).take (i - b))] by simp] at IH
          simp (disch:=omega) only [wk,bit,nI,sz,sa,c32,xe,ol,bl,List.length_append,List.length_cons,List.length_nil]
          exact IH
        · obtain rfl:b=i:=by omega
          have he2:=he
          rw [Nat.sub_self,List.take_zero,h3,Lib.fieldsGo_sp _ _ q1r] at he2
          have IH:=qu8 k hk fu s hs N (b+1) (b+1) out (by omega) (by omega) (by omega) (by rw [Nat.sub_self,List.take_zero]; exact he2) (by omega)
          simp (disch:=omega) only [wk,bit,nI,sz,sa,c32]
          exact IH
      · have n32:¬ (c.toNat:Int)=32:=fun e=>by
          have h:c.toNat=32:=by omega
          exact h3 (UInt8.toNat_inj.1 h)
        have he2:=he
        rw [Lib.fieldsGo_more _ _ _ (q1s (qw4 ok h3)),← tk] at he2
        have IH:=qu8 k hk fu s hs N (i+1) b out (by omega) (by omega) (by omega) he2 (by omega)
        simp (disch:=omega) only [wk,bit,nI,sz,sa]
        exact IH
    · obtain rfl:i=s.length:=by omega
      rw [List.drop_length] at he ⊢
      rw [List.all_nil,Bool.true_and]
      by_cases h4:b<s.length
      · have ne:((s.drop b).take (s.length - b)).isEmpty=false:=by
          have:(s.drop b).take (s.length - b)≠[]:=by
            intro e
            have:=congrArg List.length e
            rw [List.length_take,List.length_drop,List.length_nil] at this
            omega
          cases h:(s.drop b).take (s.length - b) with
          | nil=>exact absurd h this
          | cons _ _=>rfl
        have he2:out++[(s.drop b).take (s.length - b)]=Lib.fields s:=by
          rw [← he]; simp [Lib.fieldsGo,ne]
        have E:=qy7 k hk fu s hs (s.length+1) (N - 1) (baL out++[ba ((s.drop b).take (s.length - b))]) (by rw [← he2]; simp)
        rw [show N - 1+1=N by omega] at E
        simp (disch:=omega) only [wk,bit,nI,sz,xe,ol,bl,List.length_append,List.length_cons,List.length_nil]
        exact E
      · obtain rfl:b=s.length:=by omega
        have he2:out=Lib.fields s:=by
          rw [← he]; simp [Lib.fieldsGo]
        have E:=qy7 k hk fu s hs (s.length+1) (N - 1) (baL out) (by rw [← he2])
        rw [show N - 1+1=N by omega] at E
        simp (disch:=omega) only [wk,bit,nI,sz]
        exact E
theorem qgc (k:Nat)(hk:2000000≤k)(s:List UInt8)(hs:s.length≤1048576):go (k+1) spec_SplitFields [.str (ba s)]=cond (q1w s) (some [.arr true false (.strs (wordsL s)),.bool true]) (some [.arr true false (.strs []),.bool false]):=by
  rw [qnl]
  have sz:=qbd s
  unfold q1w
  by_cases h:s.length≤600
  · have e:=qu8 k hk [] s h (k+0) 0 0 [] (by omega) (by omega) (by omega) (by simp [Lib.fields]) (by simp)
    rw [List.drop_zero,show ((0:Nat):Int)=0 from rfl,show baL []=[] from rfl] at e
    simp (disch:=omega) only [wk,bit,nI,sz]
    exact e
  · simp (disch:=omega) only [wk,bit,nI,sz]
theorem qur (k:Nat)(hk:2000000≤k)(fu:List (Nat×Nat))(s:List UInt8)(hs:s.length≤12): ∀ (N i:Nat)(a:Int),i≤s.length→s.length - i<N→0≤a∧a<10 ^ i→
    lp (k+1) spec_l26Number [] fu 5 (N) (q04 (ba s) a (i:Int))=some [.int .i64 (qws a (s.drop i))]
  | 0,i,a,hi,hN,ha=>by omega
  | N+1,i,a,hi,hN,ha=>by
    rw [qs7]
    have sz:=qbd s
    have p:(10:Int) ^ i≤10 ^ 12:=by exact_mod_cast Nat.pow_le_pow_right (by omega:0<10) (show i≤12 by omega)
    by_cases g:i<s.length
    · have sa:=q2h s i
      rw [qi5 g 0,qws]
      obtain ⟨c,hc⟩: ∃ c,s.getD i 0=c:=⟨_,rfl⟩
      rw [hc] at sa ⊢
      have cb:=c.toNat_lt
      have wc:IntKind.wrap .i64 (c.toNat:Int)=(c.toNat:Int):=q4c (by omega) (by omega)
      have dg:inR (c.toNat:Int) 48 57=isDg c:=by
        unfold inR isDg
        congr 1<;>rw [decide_eq_decide]<;>omega
      have cI:=qgl k (by omega) (c.toNat:Int) 48 57
      rw [dg] at cI
      cases h:isDg c
      · rw [h] at cI
        simp (disch:=omega) only [wk,bit,nI,sz,sa,wc,cI]
      · rw [h] at cI
        have h' :=h
        simp only [isDg,Bool.and_eq_true,decide_eq_true_eq] at h'
        have IH:=qur k hk fu s hs N (i+1) (10*a+(c.toNat:Int) - 48) (by omega) (by omega) (by rw [Int.pow_succ]; omega)
        simp (disch:=omega) only [wk,bit,nI,sz,sa,wc,cI]
        exact IH
    · rw [List.drop_of_length_le (by omega)]
      simp (disch:=omega) only [wk,bit,nI,sz]
      rfl
theorem qg7 (k:Nat)(hk:2000000≤k)(s:List UInt8)(hs:s.length≤1048576):go (k+2) spec_l26Number [.str (ba s)]=some [.int .i64 (l26V s)]:=by
  rw [qoj]
  have sz:=qbd s
  unfold l26V
  by_cases h0:s.length=0
  · simp (disch:=omega) only [wk,bit,nI,sz]
  by_cases h1:12<s.length
  · simp (disch:=omega) only [wk,bit,nI,sz]
  have e:=qur k hk [] s (by omega) (k+1) 0 0 (by omega) (by omega) (by simp)
  rw [List.drop_zero,show ((0:Nat):Int)=0 from rfl] at e
  simp (disch:=omega) only [wk,bit,nI,sz]
  exact e
end Go.Proofs.YtjfjniebmdafeaaGreatDoor
end
section
namespace Go.Proofs.YtjfjniebmdafeaaGreatDoor
open Go.Ev
set_option maxRecDepth 20000
abbrev A4:=Int×Int×Int×Int
def awd (a b c d:Int):List (List UInt8):=if a=4∨a=6∨a=7 then [nmB a,Lib.itoa b,Lib.itoa c,Lib.itoa d] else [nmB a,Lib.itoa b]
theorem qas (a b c d:Int):actL a b c d=Lib.join (awd a b c d) [32]:=by
  unfold actL awd
  split<;>simp [spacedL,Lib.join_cons,Lib.joinTail]
theorem qwq (a:Int):isWd (nmB a)=true:=by
  unfold nmB
  repeat' split
  all_goals decide
theorem qa8 {a b c d:Int}(h:qat a b c d=true):(awd a b c d).all isWd=true:=by
  have bd:=qau h
  have n:=qwq a
  have i1:=qqu bd.2.1.1; have i2:=qqu bd.2.2.1.1; have i3:=qqu bd.2.2.2.1
  unfold awd
  split<;>simp [n,i1,i2,i3]
theorem qaz {a b c d:Int}{ws:List (List UInt8)}(hw:ws.all isWd=true)(h:qat a b c d=true)(e:actL a b c d=Lib.join ws [32]):ws=awd a b c d:=by
  rw [qas] at e
  have:=congrArg Lib.fields e
  rw [qoz _ (qa8 h),qoz _ hw] at this
  exact this.symm
theorem qay {a b c d:Int}(h:qat a b c d=true)(n:¬ (a=4∨a=6∨a=7)):c=0∧d=0:=by
  rcases qax (qaw h) with rfl | rfl | rfl | rfl | rfl | rfl | rfl
  · simp [qat,sgl,inR] at h; omega
  · simp [qat,sgl,inR] at h; omega
  · simp [qat,sgl,inR] at h; omega
  · exact absurd (Or.inl rfl) n
  · simp [qat,sgl,inR] at h; omega
  · exact absurd (Or.inr (Or.inl rfl)) n
  · exact absurd (Or.inr (Or.inr rfl)) n
theorem qwp {a b:Int}(ha:1≤a∧a≤7)(hb:1≤b∧b≤7)(e:nmB a=nmB b):a=b:=by
  rcases qax ha with rfl | rfl | rfl | rfl | rfl | rfl | rfl<;>rcases qax hb with rfl | rfl | rfl | rfl | rfl | rfl | rfl<;>first | rfl | exact absurd e (by decide)
def fidx (w:ByteArray):Nat→List ByteArray→Int
  | _,[]=> -1
  | i,x::l=>cond (decide (w=x)) (i:Int) (fidx w (i+1) l)
theorem qt7 (k:Nat)(hk:2000000≤k)(fu:List (Nat×Nat))(z:Bool)(w:ByteArray)(l:List ByteArray)(hl:l.length≤1000): ∀ (N i:Nat),i≤l.length→l.length - i<N→
    lp k slices_Index_string_string [] fu 2 (N) (q0b w (l.length:Int) (i:Int) z l)=some [.int .i64 (fidx w i (l.drop i))]
  | 0,i,hi,hN=>by omega
  | N+1,i,hi,hN=>by
    rw [qse]
    by_cases g:i<l.length
    · have IH:=qt7 k hk fu z w l hl N (i+1) (by omega) (by omega)
      rw [qi5 g ByteArray.empty,fidx]
      cases h:decide (w=l.getD i ByteArray.empty)
      · simp (disch:=omega) only [wk,bit,nI,h]
        exact IH
      · simp (disch:=omega) only [wk,bit,nI,h]
    · rw [List.drop_of_length_le (by omega)]
      simp (disch:=omega) only [wk,bit,nI]
      rfl
theorem qef (k:Nat)(hk:2000000≤k)(z:Bool)(l:List ByteArray)(w:ByteArray)(hl:l.length≤1000):go (k+1) slices_Index_string_string [.arr false z (.strs l),.str w]=some [.int .i64 (fidx w 0 l)]:=by
  rw [qms]
  have e:=qt7 k hk [] z w l hl (k+0) 0 (by omega) (by omega)
  rw [List.drop_zero,show ((0:Nat):Int)=0 from rfl] at e
  exact e
theorem qow {a:Int}(h:1≤a∧a≤7):fidx (ba (nmB a)) 0 NM=a:=by
  rcases qax h with rfl | rfl | rfl | rfl | rfl | rfl | rfl<;>decide
theorem qbb {a b:List UInt8} :decide (ba a=ba b)=decide (a=b):=by
  rw [decide_eq_decide]
  constructor
  · intro h; have:=congrArg (fun x:ByteArray=>x.data.toList) h; exact this
  · intro h; rw [h]
abbrev zD:List D:=[.agg [.int .i64 0,.int .i64 0,.int .i64 0,.int .i64 0],.bool false]
abbrev aD (a b c d:Int):List D:=[.agg [.int .i64 a,.int .i64 b,.int .i64 c,.int .i64 d],.bool true]
theorem qq9 (k n:Nat)(fu:List (Nat×Nat))(m:Nat)(hm:m≤3)(x3 x4 x5 x6:Int)(z:Bool)(l:List ByteArray)(a b c d:Int):lp k impl_ParseAct [] fu 6 (n+1) (qzf m (m:Int) (m:Int) x3 x4 x5 x6 z l a b c d)=
  (go k impl_FormatAct [.agg [.int .i64 a,.int .i64 b,.int .i64 c,.int .i64 d]]).bind fun r=>
    cond (!bit (nth r 1)) (some zD)
    ((go k strings_Join [.arr false z (.strs l),.str { data:= #[(32:UInt8)] }]).bind fun q=>
      cond (!decide (D.toStr (nth r 0)=D.toStr (nth q 0))) (some zD) (some (aD a b c d))):=by
  have:m=0∨m=1∨m=2∨m=3:=by omega
  rcases this with rfl | rfl | rfl | rfl
  · show _=_; kernel_rfl
  · show _=_; kernel_rfl
  · show _=_; kernel_rfl
  · show _=_; kernel_rfl
theorem qra (k n:Nat)(fu:List (Nat×Nat))(m i:Nat)(hi:i<m)(hm:m≤3)(x3 x4 x5 x6:Int)(z:Bool)(l:List ByteArray)(a b c d:Int):lp k impl_ParseAct [] fu 6 (n+1) (qzf m (m:Int) (i:Int) x3 x4 x5 x6 z l a b c d)=
  cond (decide (((i+1:Nat):Int)<nI (List.length l)))
    ((go k impl_parseNumber [.str (List.getD l (i+1) ByteArray.empty)]).bind fun r=>lp k impl_ParseAct [] fu 6 n (qzf m (m:Int) ((i+1:Nat):Int) x3 x4 x5 x6 z l a (if i=0 then D.toInt (nth r 0) else b) (if i=1 then D.toInt (nth r 0) else c) (if i=2 then D.toInt (nth r 0) else d)))
    none:=by
  have:m=1∧i=0∨m=2∧i=0∨m=2∧i=1∨m=3∧i=0∨m=3∧i=1∨m=3∧i=2:=by omega
  rcases this with ⟨rfl,rfl⟩ | ⟨rfl,rfl⟩ | ⟨rfl,rfl⟩ | ⟨rfl,rfl⟩ | ⟨rfl,rfl⟩ | ⟨rfl,rfl⟩
  · show _=_; kernel_rfl
  · show _=_; kernel_rfl
  · show _=_; kernel_rfl
  · show _=_; kernel_rfl
  · show _=_; kernel_rfl
  · show _=_; kernel_rfl
theorem qpw (k:Nat)(hk:2000000≤k)(fu:List (Nat×Nat))(z:Bool)(ws:List (List UInt8))(x3 x4 x5 x6 a b c d:Int)(n N:Nat)(hn:n≤3)(hj:(Lib.join ws [32]).length≤100000)(hl:ws.length≤4):
    lp (k+4) impl_ParseAct [] fu 6 (N+1) (qzf n (n:Int) (n:Int) x3 x4 x5 x6 z (baL ws) a b c d)=cond (qat a b c d&&decide (actL a b c d=Lib.join ws [32])) (some (aD a b c d)) (some zD):=by
  rw [qq9 _ _ _ n hn]
  have f:=qb5 k (by omega) a b c d
  have jl:joinL (baL ws) (ba [32])=Lib.join ws [32]:=by
    unfold joinL baL
    rw [List.map_map,qbc]
    congr 1
    conv=>rhs; rw [← List.map_id ws]
    rfl
  have j:=qhh (k+3) z (baL ws) (ba [32]) (by rw [jl]; exact hj) (by rw [List.length_map]; omega)
  rw [jl] at j
  have y1' :({ data:= #[(32:UInt8)] } :ByteArray)=ba [32]:=Eq.trans rfl rfl
  cases g:qat a b c d
  · rw [g] at f
    simp (disch:=omega) only [wk,bit,nI,f]
  · rw [g] at f
    have bi:=qbb (a:=actL a b c d) (b:=Lib.join ws [32])
    cases h:decide (actL a b c d=Lib.join ws [32])
    · rw [h] at bi
      simp (disch:=omega) only [wk,bit,nI,f,y1',j,bi]
    · rw [h] at bi
      simp (disch:=omega) only [wk,bit,nI,f,y1',j,bi]
theorem qa9 (ws:List (List UInt8))(i:Nat):(baL ws).getD i ByteArray.empty=ba (ws.getD i []):=by
  unfold baL
  rw [List.getD_eq_getElem?_getD,List.getElem?_map,List.getD_eq_getElem?_getD]
  cases ws[i]? <;>rfl
theorem qpx (k:Nat)(hk:2000000≤k)(fu:List (Nat×Nat))(z:Bool)(ws:List (List UInt8))(x3 x4 x5 x6 a b c d:Int)(n i N:Nat)(hi:i<n)(hn:n≤3)(hl:ws.length=n+1)(hw: ∀ w∈ws,w.length≤1000):
    lp (k+4) impl_ParseAct [] fu 6 (N+1) (qzf n (n:Int) (i:Int) x3 x4 x5 x6 z (baL ws) a b c d)=lp (k+4) impl_ParseAct [] fu 6 (N) (qzf n (n:Int) ((i+1:Nat):Int) x3 x4 x5 x6 z (baL ws) a (if i=0 then atoiV (ws.getD (i+1) []) else b) (if i=1 then atoiV (ws.getD (i+1) []) else c) (if i=2 then atoiV (ws.getD (i+1) []) else d)):=by
  rw [qra _ _ _ n i hi hn]
  have bl:(baL ws).length=ws.length:=List.length_map ..
  have ba1:=qa9 ws (i+1)
  have wl:(ws.getD (i+1) []).length≤1000:=by
    by_cases h:i+1<ws.length
    · exact hw _ (qpj h [])
    · rw [qpi (by omega)]; simp
  have p:=qdy (k+3) (ba (ws.getD (i+1) [])) (by rw [qbd]; exact wl)
  rw [qbc] at p
  simp (disch:=omega) only [wk,bit,nI,bl,ba1,p]
def vAt (f:List UInt8→Int)(r:List (List UInt8))(i:Nat):Int:=(r.map f++[0,0]).getD i 0
theorem qpv (k:Nat)(hk:2000000≤k)(fu:List (Nat×Nat))(z:Bool)(x:List UInt8)(r:List (List UInt8))(x3 x4 x5 x6 a:Int)(N:Nat)(hr:1≤r.length∧r.length≤3)(hw: ∀ w∈x::r,w.length≤1000)(hj:(Lib.join (x::r) [32]).length≤100000):
    lp (k+4) impl_ParseAct [] fu 6 (N+4) (qzf r.length (r.length:Int) ((0:Nat):Int) x3 x4 x5 x6 z (baL (x::r)) a 0 0 0)=cond (qat a (vAt atoiV r 0) (vAt atoiV r 1) (vAt atoiV r 2)&&decide (actL a (vAt atoiV r 0) (vAt atoiV r 1) (vAt atoiV r 2)=Lib.join (x::r) [32])) (some (aD a (vAt atoiV r 0) (vAt atoiV r 1) (vAt atoiV r 2))) (some zD):=by
  match r,hr,hw,hj with
  | [],hr,hw,hj=>simp at hr
  | [w1],hr,hw,hj=>
    rw [qpx k hk fu z [x,w1] x3 x4 x5 x6 a 0 0 0 [w1].length 0 (N+3) (by simp) (by simp) rfl hw]
    exact qpw k hk fu z [x,w1] x3 x4 x5 x6 a _ _ _ [w1].length (N+2) (by simp) hj (by simp)
  | [w1,w2],hr,hw,hj=>
    rw [qpx k hk fu z [x,w1,w2] x3 x4 x5 x6 a 0 0 0 [w1,w2].length 0 (N+3) (by simp) (by simp) rfl hw,qpx k hk fu z [x,w1,w2] x3 x4 x5 x6 a _ _ _ [w1,w2].length 1 (N+2) (by simp) (by simp) rfl hw]
    exact qpw k hk fu z [x,w1,w2] x3 x4 x5 x6 a _ _ _ [w1,w2].length (N+1) (by simp) hj (by simp)
  | [w1,w2,w3],hr,hw,hj=>
    rw [qpx k hk fu z [x,w1,w2,w3] x3 x4 x5 x6 a 0 0 0 [w1,w2,w3].length 0 (N+3) (by simp) (by simp) rfl hw,qpx k hk fu z [x,w1,w2,w3] x3 x4 x5 x6 a _ _ _ [w1,w2,w3].length 1 (N+2) (by simp) (by simp) rfl hw,qpx k hk fu z [x,w1,w2,w3] x3 x4 x5 x6 a _ _ _ [w1,w2,w3].length 2 (N+1) (by simp) (by simp) rfl hw]
    exact qpw k hk fu z [x,w1,w2,w3] x3 x4 x5 x6 a _ _ _ [w1,w2,w3].length N (by simp) hj (by simp)
  | _::_::_::_::_,hr,hw,hj=>simp at hr
theorem qy4 (k:Nat)(hk:2000000≤k)(fu:List (Nat×Nat))(J:List UInt8)(x2 x3 x4 x5:Int)(L:List Int)(hL:3≤L.length∧L.length≤10)(q:Nat)(hq:q≤7)(ok:qat q (L.getD 0 0) (L.getD 1 0) (L.getD 2 0)=true)(e:actL q (L.getD 0 0) (L.getD 1 0) (L.getD 2 0)=J):
    ∀ (N i:Nat),1≤i→i≤q→q - i<N→(∀ j:Nat,i≤j→j<q→¬ (qat j (L.getD 0 0) (L.getD 1 0) (L.getD 2 0)=true∧actL j (L.getD 0 0) (L.getD 1 0) (L.getD 2 0)=J))→
    lp (k+4) spec_ParseAct [] fu 13 (N) (q0k (ba J) (i:Int) x2 x3 x4 x5 false L)=some (aD q (L.getD 0 0) (L.getD 1 0) (L.getD 2 0))
  | 0,i,h1,hi,hN,hno=>by omega
  | N+1,i,h1,hi,hN,hno=>by
    rw [qsn]
    have t2:Int.toNat 2=2:=rfl
    have t1:Int.toNat 1=1:=rfl
    have t0:Int.toNat 0=0:=rfl
    have f:=qfs k (by omega) i (L.getD 0 0) (L.getD 1 0) (L.getD 2 0)
    have bi:=qbb (a:=actL i (L.getD 0 0) (L.getD 1 0) (L.getD 2 0)) (b:=J)
    by_cases g:i=q
    · subst g
      rw [ok] at f
      rw [decide_eq_true e] at bi
      simp (disch:=omega) only [wk,bit,nI,t0,t1,t2,f,bi]
    · have IH:=qy4 k hk fu J x2 x3 x4 x5 L hL q hq ok e N (i+1) (by omega) (by omega) (by omega) (fun j h1 h2=>hno j (by omega) h2)
      have no:=hno i (Nat.le_refl _) (by omega)
      cases h:qat i (L.getD 0 0) (L.getD 1 0) (L.getD 2 0)
      · rw [h] at f
        simp (disch:=omega) only [wk,bit,nI,t0,t1,t2,f]
        exact IH
      · rw [h] at f
        rw [decide_eq_false (fun e=>no ⟨h,e⟩)] at bi
        simp (disch:=omega) only [wk,bit,nI,t0,t1,t2,f,bi]
        exact IH
theorem qy5 (k:Nat)(hk:2000000≤k)(fu:List (Nat×Nat))(J:List UInt8)(x2 x3 x4 x5:Int)(L:List Int)(hL:3≤L.length∧L.length≤10):
    ∀ (N i:Nat),1≤i→i≤8→8 - i<N→(∀ j:Nat,i≤j→j≤7→¬ (qat j (L.getD 0 0) (L.getD 1 0) (L.getD 2 0)=true∧actL j (L.getD 0 0) (L.getD 1 0) (L.getD 2 0)=J))→
    lp (k+4) spec_ParseAct [] fu 13 (N) (q0k (ba J) (i:Int) x2 x3 x4 x5 false L)=some zD
  | 0,i,h1,hi,hN,hno=>by omega
  | N+1,i,h1,hi,hN,hno=>by
    rw [qsn]
    have t2:Int.toNat 2=2:=rfl
    have t1:Int.toNat 1=1:=rfl
    have t0:Int.toNat 0=0:=rfl
    by_cases g:i≤7
    · have f:=qfs k (by omega) i (L.getD 0 0) (L.getD 1 0) (L.getD 2 0)
      have bi:=qbb (a:=actL i (L.getD 0 0) (L.getD 1 0) (L.getD 2 0)) (b:=J)
      have IH:=qy5 k hk fu J x2 x3 x4 x5 L hL N (i+1) (by omega) (by omega) (by omega) (fun j h1 h2=>hno j (by omega) h2)
      have no:=hno i (Nat.le_refl _) g
      cases h:qat i (L.getD 0 0) (L.getD 1 0) (L.getD 2 0)
      · rw [h] at f
        simp (disch:=omega) only [wk,bit,nI,t0,t1,t2,f]
        exact IH
      · rw [h] at f
        rw [decide_eq_false (fun e=>no ⟨h,e⟩)] at bi
        simp (disch:=omega) only [wk,bit,nI,t0,t1,t2,f,bi]
        exact IH
    · simp (disch:=omega) only [wk,bit,nI]
theorem qu5 (k:Nat)(hk:2000000≤k)(fu:List (Nat×Nat))(x:List UInt8)(r:List (List UInt8))(x2 x3 x4 x5:Int)(z:Bool)(hr:r.length≤3)(hw: ∀ w∈x::r,w.length≤1000): ∀ (N j:Nat),j≤r.length→r.length - j<N→
    lp (k+4) spec_ParseAct [] fu 7 (N) (q0l (ba (x++Lib.joinTail [32] (r.take j))) ((j+1:Nat):Int) x2 x3 x4 x5 z (baL (x::r)) false ((r.take j).map l26V))=lp (k+4) spec_ParseAct [] fu 13 (k+4) (q0k (ba (Lib.join (x::r) [32])) 1 x2 x3 x4 x5 false (r.map l26V++[0,0]))
  | 0,j,hj,hN=>by omega
  | N+1,j,hj,hN=>by
    rw [qso]
    have bl:(baL (x::r)).length=r.length+1:=by simp
    have ml:((r.take j).map l26V).length=j:=by rw [List.length_map,List.length_take]; omega
    have bg:bigLen=1099511627776:=rfl
    have y1' :({ data:= #[(32:UInt8)] } :ByteArray)=ba [32]:=Eq.trans rfl rfl
    have tl:(Lib.joinTail [32] (r.take j)).length≤1001*j:=by
      have: ∀ (l:List (List UInt8)),(∀ w∈l,w.length≤1000)→(Lib.joinTail [32] l).length≤1001*l.length:=by
        intro l
        induction l with
        | nil=>intro _; simp [Lib.joinTail]
        | cons a l ih=>
          intro h
          have e:Lib.joinTail [32] (a::l)=32::(a++Lib.joinTail [32] l):=by simp [Lib.joinTail]
          have:=ih (fun w hw=>h w (List.mem_cons_of_mem _ hw))
          have:=h a List.mem_cons_self
          rw [e]; simp only [List.length_cons,List.length_append]; omega
      have h:=this (r.take j) (fun w hw' =>hw w (List.mem_cons_of_mem _ (List.mem_of_mem_take hw')))
      rw [List.length_take] at h
      exact Nat.le_trans h (by omega)
    have xl:=hw x List.mem_cons_self
    by_cases g:j<r.length
    · have IH:=qu5 k hk fu x r x2 x3 x4 x5 z hr hw N (j+1) (by omega) (by omega)
      have ba1:(baL (x::r)).getD (j+1) ByteArray.empty=ba (r.getD j []):=by rw [qa9]; rfl
      have wl:=hw _ (List.mem_cons_of_mem _ (qpj g []))
      have cN:=qg7 (k+2) (by omega) (r.getD j []) (by omega)
      have hy:r[j]? =some (r.getD j []):=by simp [List.getD_eq_getElem?_getD,g]
      have e1:ba (x++Lib.joinTail [32] (r.take j))++ba [32]++ba (r.getD j [])=ba (x++Lib.joinTail [32] (r.take (j+1))):=by
        rw [Lib.joinTail_take_succ _ _ _ _ hy,qba,qba]; simp
      have e2:(r.take j).map l26V++[l26V (r.getD j [])]=(r.take (j+1)).map l26V:=by
        rw [List.take_add_one,hy]; simp
      have s0:=qbd (x++Lib.joinTail [32] (r.take j)); have s1:=qbd [32]; have s2:=qbd (r.getD j [])
      have s3:=qbd (x++Lib.joinTail [32] (r.take j)++[32])
      have ap:=qba (x++Lib.joinTail [32] (r.take j)) [32]
      have ap2:=qba (x++Lib.joinTail [32] (r.take j)++[32]) (r.getD j [])
      rw [ap,ap2] at e1
      simp only [List.length_append,List.length_cons,List.length_nil] at s0 s1 s3
      simp (disch:=omega) only [wk,bit,nI,bl,ml,bg,y1',ba1,cN,s0,s1,s2,s3,ap,ap2,e1,e2,List.length_append,List.length_cons,List.length_nil]
      exact IH
    · obtain rfl:j=r.length:=by omega
      rw [List.take_length,← Lib.join_cons]
      rw [List.take_length] at ml
      simp (disch:=omega) only [wk,bit,nI,bl,ml,bg,List.length_append,List.length_cons,List.length_nil]
theorem qa6 (k:Nat)(hk:2000000≤k)(J:List UInt8)(x2 x3 x4 x5:Int)(L:List Int)(hL:3≤L.length∧L.length≤10)(fu:List (Nat×Nat))(N:Nat)(hN:10≤N):
    (∀ q:Int,qat q (L.getD 0 0) (L.getD 1 0) (L.getD 2 0)=true→actL q (L.getD 0 0) (L.getD 1 0) (L.getD 2 0)=J→(∀ q' :Int,qat q' (L.getD 0 0) (L.getD 1 0) (L.getD 2 0)=true→actL q' (L.getD 0 0) (L.getD 1 0) (L.getD 2 0)=J→q' =q)→lp (k+4) spec_ParseAct [] fu 13 (N) (q0k (ba J) 1 x2 x3 x4 x5 false L)=some (aD q (L.getD 0 0) (L.getD 1 0) (L.getD 2 0)))∧
    ((∀ q:Int,¬ (qat q (L.getD 0 0) (L.getD 1 0) (L.getD 2 0)=true∧actL q (L.getD 0 0) (L.getD 1 0) (L.getD 2 0)=J))→lp (k+4) spec_ParseAct [] fu 13 (N) (q0k (ba J) 1 x2 x3 x4 x5 false L)=some zD):=by
  constructor
  · intro q ok e uq
    have bd:=qaw ok
    obtain ⟨n,rfl⟩: ∃ n:Nat,q=(n:Int):=⟨q.toNat,by omega⟩
    exact qy4 k hk fu J x2 x3 x4 x5 L hL n (by omega) ok e N 1 (by omega) (by omega) (by omega) (fun j h1 h2 h=>by have:=uq j h.1 h.2; omega)
  · intro no
    exact qy5 k hk fu J x2 x3 x4 x5 L hL N 1 (by omega) (by omega) (by omega) (fun j _ _ h=>no j h)
end Go.Proofs.YtjfjniebmdafeaaGreatDoor
end
section
namespace Go.Proofs.YtjfjniebmdafeaaGreatDoor
open Go.Ev
set_option maxRecDepth 20000
def qti (s:List UInt8):Prop:=q1w s=true∧2≤(Lib.fields s).length∧(Lib.fields s).length≤4
def qth (s:List UInt8)(x:A4):Prop:=aOk x=true∧aL x=Lib.join (Lib.fields s) [32]
open Classical in
noncomputable def prsA (s:List UInt8):Option A4:=if h:qti s∧ ∃ x,qth s x then some h.2.choose else none
def prsD:Option A4→List D
  | some x=>aD x.1 x.2.1 x.2.2.1 x.2.2.2
  | none=>zD
theorem qtj {s:List UInt8}(h:q1w s=true):s.length≤600∧(Lib.fields s).all isWd=true∧(∀ w∈Lib.fields s,w.length≤600):=by
  simp only [q1w,Bool.and_eq_true,decide_eq_true_eq] at h
  exact ⟨h.1,qo3 h.2.1,fun w hw=>Nat.le_trans (qo1 hw) h.1⟩
theorem qqw: ∀ (ws:List (List UInt8)),(∀ w∈ws,w.length≤600)→(Lib.join ws [32]).length≤601*ws.length:=by
  intro ws
  cases ws with
  | nil=>intro _; simp [Lib.join_nil]
  | cons x r=>
    intro h
    have: ∀ (l:List (List UInt8)),(∀ w∈l,w.length≤600)→(Lib.joinTail [32] l).length≤601*l.length:=by
      intro l
      induction l with
      | nil=>intro _; simp [Lib.joinTail]
      | cons a l ih=>
        intro h
        have e:Lib.joinTail [32] (a::l)=32::(a++Lib.joinTail [32] l):=by simp [Lib.joinTail]
        have:=ih (fun w hw=>h w (List.mem_cons_of_mem _ hw))
        have:=h a List.mem_cons_self
        rw [e]; simp only [List.length_cons,List.length_append]; omega
    have h1:=this r (fun w hw=>h w (List.mem_cons_of_mem _ hw))
    have h2:=h x List.mem_cons_self
    rw [Lib.join_cons,List.length_append,List.length_cons]; omega
theorem q3z {a b c d:Int}{f:List UInt8→Int}(hf: ∀ n:Int,0≤n∧n≤1000000→f (Lib.itoa n)=n)(h:qat a b c d=true){x:List UInt8}{r:List (List UInt8)}(e:x::r=awd a b c d):x=nmB a∧vAt f r 0=b∧vAt f r 1=c∧vAt f r 2=d:=by
  have bd:=qau h
  have e1:=hf b bd.2.1; have e2:=hf c bd.2.2.1; have e3:=hf d bd.2.2.2
  unfold awd at e
  split at e
  · cases e
    simp [vAt,e1,e2,e3]
  · rename_i n
    have s:=qay h n
    cases e
    simp [vAt,e1,s.1,s.2]
theorem qia:Nat.beq (Tryz.prog.cellsOf 139) 1=true:=by kernel_rfl
theorem qcm (k:Nat)(hk:2000000≤k)(s:List UInt8)(hs:s.length≤1048576):go (k+5) impl_ParseAct [.str (ba s)]=some (prsD (prsA s)):=by
  rw [qj4,qia]
  have eS:=qcs k (by omega) s hs
  have wl:(wordsL s).length=(Lib.fields s).length:=List.length_map ..
  cases g:q1w s
  · rw [g] at eS
    have:prsA s=none:=dif_neg (fun h=>by have:=h.1.1; rw [g] at this; cases this)
    rw [this]
    simp (disch:=omega) only [wk,bit,nI,eS]
    rfl
  rw [g] at eS
  obtain ⟨h600,hwd,hwl⟩:=qtj g
  by_cases h2:(Lib.fields s).length<2
  · have:prsA s=none:=dif_neg (fun h=>by have:=h.1.2.1; omega)
    rw [this]
    simp (disch:=omega) only [wk,bit,nI,eS,wl]
    rfl
  by_cases h4:4<(Lib.fields s).length
  · have:prsA s=none:=dif_neg (fun h=>by have:=h.1.2.2; omega)
    rw [this]
    simp (disch:=omega) only [wk,bit,nI,eS,wl]
    rfl
  obtain ⟨x,r,hx⟩: ∃ x r,Lib.fields s=x::r:=by
    cases h:Lib.fields s with
    | nil=>rw [h] at h2; simp at h2
    | cons x r=>exact ⟨x,r,rfl⟩
  have hw:wordsL s=baL (x::r):=by unfold wordsL; rw [hx]
  have lo:qti s:=⟨g,by omega,by omega⟩
  have jl:=qqw _ hwl
  rw [hx] at wl h2 h4 hwd hwl jl
  simp only [List.length_cons] at wl h2 h4 jl
  have e1:(wordsL s).getD 0 ByteArray.empty=ba x:=by rw [hw]; rfl
  have cN:=qc4 (k+4 - 1)
  rw [show k+4 - 1+1=k+4 by omega] at cN
  have cI:=qef (k+3) (by omega) false NM (ba x) (by rw [qag]; omega)
  have eE:=qpv k hk [] false x r 0 0 0 0 (fidx (ba x) 0 NM) (k+4 - 4) (by omega) (fun w hw=>by have:=hwl w hw; omega) (by omega)
  rw [show k+4 - 4+4=k+4 by omega,← hw,show ((0:Nat):Int)=0 from rfl] at eE
  have t0:Int.toNat 0=0:=rfl
  have fin:cond (qat (fidx (ba x) 0 NM) (vAt atoiV r 0) (vAt atoiV r 1) (vAt atoiV r 2)&&decide (actL (fidx (ba x) 0 NM) (vAt atoiV r 0) (vAt atoiV r 1) (vAt atoiV r 2)=Lib.join (x::r) [32])) (some (aD (fidx (ba x) 0 NM) (vAt atoiV r 0) (vAt atoiV r 1) (vAt atoiV r 2))) (some zD)=some (prsD (prsA s)):=by
    by_cases ex: ∃ y,qth s y
    · have e:prsA s=some ex.choose:=dif_pos ⟨lo,ex⟩
      have hy:=ex.choose_spec
      generalize ex.choose=y at e hy
      obtain ⟨a,b,c,d⟩:=y
      obtain ⟨y1,y2⟩:=hy
      rw [hx] at y2
      have hws:=qaz hwd y1 y2
      obtain ⟨v0,v1,v2,v3⟩:=q3z (f:=atoiV) (fun n h=>qqm h) y1 hws
      rw [e,v0,v1,v2,v3,qow (qaw y1),show qat a b c d=true from y1,← v0,decide_eq_true (show actL a b c d=Lib.join (x::r) [32] from y2)]
      rfl
    · have e:prsA s=none:=dif_neg (fun h=>ex h.2)
      rw [e]
      cases c:(qat (fidx (ba x) 0 NM) (vAt atoiV r 0) (vAt atoiV r 1) (vAt atoiV r 2)&&decide (actL (fidx (ba x) 0 NM) (vAt atoiV r 0) (vAt atoiV r 1) (vAt atoiV r 2)=Lib.join (x::r) [32]))
      · rfl
      · simp only [Bool.and_eq_true,decide_eq_true_eq] at c
        exact absurd ⟨(_,_,_,_),c.1,by rw [hx]; exact c.2⟩ ex
  rw [fin] at eE
  simp (disch:=omega) only [wk,bit,nI,eS,wl,t0,e1,cN,cI]
  rw [show ((r.length+1:Nat):Int) - 1=(r.length:Int) by omega,Int.toNat_natCast]
  exact eE
theorem qf6 (k:Nat)(hk:2000000≤k)(s:List UInt8)(hs:s.length≤1048576):go (k+5) spec_ParseAct [.str (ba s)]=some (prsD (prsA s)):=by
  rw [qnf]
  have eS:=qgc (k+3) (by omega) s hs
  have wl:(wordsL s).length=(Lib.fields s).length:=List.length_map ..
  have cI:=qgl (k+3) (by omega) ((wordsL s).length:Int) 2 4
  cases g:q1w s
  · rw [g] at eS
    have:prsA s=none:=dif_neg (fun h=>by have:=h.1.1; rw [g] at this; cases this)
    rw [this]
    simp (disch:=omega) only [wk,bit,nI,eS]
    rfl
  rw [g] at eS
  obtain ⟨h600,hwd,hwl⟩:=qtj g
  by_cases h24:2≤(Lib.fields s).length∧(Lib.fields s).length≤4
  case neg=>
    have:prsA s=none:=dif_neg (fun h=>h24 h.1.2)
    have i0:inR ((wordsL s).length:Int) 2 4=false:=by
      cases h:inR ((wordsL s).length:Int) 2 4 with
      | false=>rfl
      | true=>have:=qp3.1 h; omega
    rw [i0] at cI
    rw [this]
    simp (disch:=omega) only [wk,bit,nI,eS,cI]
    rfl
  have i1:inR ((wordsL s).length:Int) 2 4=true:=qp3.2 (by omega)
  rw [i1] at cI
  obtain ⟨x,r,hx⟩: ∃ x r,Lib.fields s=x::r:=by
    cases h:Lib.fields s with
    | nil=>rw [h] at h24; simp at h24
    | cons x r=>exact ⟨x,r,rfl⟩
  have hw:wordsL s=baL (x::r):=by unfold wordsL; rw [hx]
  have lo:qti s:=⟨g,h24⟩
  rw [hx] at wl h24 hwd hwl
  simp only [List.length_cons] at wl h24
  have e1:(wordsL s).getD 0 ByteArray.empty=ba x:=by rw [hw]; rfl
  have t0:Int.toNat 0=0:=rfl
  have eE:=qu5 k hk [] x r 0 0 0 0 false (by omega) (fun w hw=>by have:=hwl w hw; omega) (k+4) 0 (by omega) (by omega)
  rw [List.take_zero,List.map_nil,show x++Lib.joinTail [32] []=x by simp [Lib.joinTail],← hw,show ((0+1:Nat):Int)=1 from rfl] at eE
  have sA:=qa6 k hk (Lib.join (x::r) [32]) 0 0 0 0 (r.map l26V++[0,0]) (by simp; omega) [] (k+4) (by omega)
  have fin:lp (k+4) spec_ParseAct [] [] 13 (k+4) (q0k (ba (Lib.join (x::r) [32])) 1 0 0 0 0 false (r.map l26V++[0,0]))=some (prsD (prsA s)):=by
    by_cases ex: ∃ y,qth s y
    · have e:prsA s=some ex.choose:=dif_pos ⟨lo,ex⟩
      have hy:=ex.choose_spec
      generalize ex.choose=y at e hy
      obtain ⟨a,b,c,d⟩:=y
      obtain ⟨y1,y2⟩:=hy
      rw [hx] at y2
      have y1:qat a b c d=true:=y1
      have y2:actL a b c d=Lib.join (x::r) [32]:=y2
      have hws:=qaz hwd y1 y2
      obtain ⟨v0,v1,v2,v3⟩:=q3z (f:=l26V) (fun n h=>qqr h) y1 hws
      have v1:(r.map l26V++[0,0]).getD 0 0=b:=v1
      have v2:(r.map l26V++[0,0]).getD 1 0=c:=v2
      have v3:(r.map l26V++[0,0]).getD 2 0=d:=v3
      rw [v1,v2,v3] at sA
      rw [sA.1 a y1 y2 (fun q hq hq2=>by
        have h2:=qaz hwd hq hq2
        have:=(q3z (f:=l26V) (fun n h=>qqr h) hq h2).1
        rw [v0] at this
        exact (qwp (qaw y1) (qaw hq) this).symm),e]
      rfl
    · have e:prsA s=none:=dif_neg (fun h=>ex h.2)
      rw [e]
      exact sA.2 (fun q h=>ex ⟨(_,_,_,_),h.1,by rw [hx]; exact h.2⟩)
  rw [fin] at eE
  rw [wl] at cI
  simp (disch:=omega) only [wk,bit,nI,eS,cI,wl,t0,e1]
  exact eE
end Go.Proofs.YtjfjniebmdafeaaGreatDoor
end
section
namespace Go.Proofs.YtjfjniebmdafeaaGreatDoor
open Go.Ev
def q0m (x0:Int)(z1:Bool)(l2:L4)(z3:Bool)(l4:L3)(z5:Bool)(l6:LI)(z7:Bool)(l8:LI)(z9:Bool)(l10:LI)(x11 x12 x13 x14 x15 x16 x17 x18 x19 x20 x21 x22 x23 x24 x25 x26 x27:Int)(z28:Bool)(l29:L3)(z30:Bool)(l31:LI)(z32:Bool)(l33:LI)(z34:Bool)(l35:LI)(x36 x37 x38 x39 x40 x41 x42 x43 x44 x45 x46 x47 x48 x49 x50 x51 x52:Int)(z53:Bool)(l54:LI):St:=⟨fill 46 [(1,.sl 0 none),(4,.ptr 5 0 0),(6,.ptr 10 0 0),(7,.sl 11 none),(8,.int .i64 x0)],[],[.arr false z1 (.r4 l2),.arr true z3 (.r3 l4),.arr true z5 (.ints .i64 l6),.arr true z7 (.ints .i64 l8),.arr true z9 (.ints .i64 l10),wB true 1 x11 x12 x13 x14 x15 x16 x17 x18 x19 x20 x21 x22 x23 x24 x25 x26 x27,.arr true z28 (.r3 l29),.arr true z30 (.ints .i64 l31),.arr true z32 (.ints .i64 l33),.arr true z34 (.ints .i64 l35),wB true 6 x36 x37 x38 x39 x40 x41 x42 x43 x44 x45 x46 x47 x48 x49 x50 x51 x52,.arr true z53 (.ints .i64 l54)]⟩
theorem qnh (k:Nat)(a0:Int)(a1z:Bool)(a1:L3)(a2z:Bool)(a2:LI)(a3z:Bool)(a3:LI)(a4z:Bool)(a4:LI)(a5 a6 a7 a8 a9 a10 a11 a12 a13 a14 a15 a16 a17 a18 a19 a20:Int)(bz:Bool)(b:L4):go (k+1) spec_RunActs [wV false a0 a1z a1 a2z a2 a3z a3 a4z a4 a5 a6 a7 a8 a9 a10 a11 a12 a13 a14 a15 a16 a17 a18 a19 a20,.arr false bz (.r4 b)]=
 (go k spec_l36Copy [wV false a0 a1z a1 a2z a2 a3z a3 a4z a4 a5 a6 a7 a8 a9 a10 a11 a12 a13 a14 a15 a16 a17 a18 a19 a20]).bind fun r0=>
 (go k spec_WorldOk [wV false a0 a1z a1 a2z a2 a3z a3 a4z a4 a5 a6 a7 a8 a9 a10 a11 a12 a13 a14 a15 a16 a17 a18 a19 a20]).bind fun r1=>
 cond (!bit (nth r1 0))
 (some [wC true (nth r0 0),.arr true false (.ints .i64 [])])
 (cond (decide (30<nI (List.length b)))
 (some [wC true (nth r0 0),.arr true false (.ints .i64 [])])
 (lp k spec_RunActs [] [] 6 k (wA (q0m 0 bz b true [] true [] true [] true [] 0 0 0 0 0 0 0 0 0 0 0 0 0 0 0 0 0) (nth r0 0) false []))):=by kernel_rfl
theorem qsp (k n:Nat)(fu:FU)(x0:Int)(z1:Bool)(l2:L4)(z3:Bool)(l4:L3)(z5:Bool)(l6:LI)(z7:Bool)(l8:LI)(z9:Bool)(l10:LI)(x11 x12 x13 x14 x15 x16 x17 x18 x19 x20 x21 x22 x23 x24 x25 x26 x27:Int)(z28:Bool)(l29:L3)(z30:Bool)(l31:LI)(z32:Bool)(l33:LI)(z34:Bool)(l35:LI)(x36 x37 x38 x39 x40 x41 x42 x43 x44 x45 x46 x47 x48 x49 x50 x51 x52:Int)(z53:Bool)(l54:LI):lp k spec_RunActs [] fu 6 (n+1) (q0m x0 z1 l2 z3 l4 z5 l6 z7 l8 z9 l10 x11 x12 x13 x14 x15 x16 x17 x18 x19 x20 x21 x22 x23 x24 x25 x26 x27 z28 l29 z30 l31 z32 l33 z34 l35 x36 x37 x38 x39 x40 x41 x42 x43 x44 x45 x46 x47 x48 x49 x50 x51 x52 z53 l54)=
 cond (decide (x0<nI (List.length l2)))
 (cond (decide (0≤x0)&&decide (x0<nI (List.length l2)))
 ((go k spec_DoAct [wV false x36 z28 l29 z30 l31 z32 l33 z34 l35 x37 x38 x39 x40 x41 x42 x43 x44 x45 x46 x47 x48 x49 x50 x51 x52,.agg [.int .i64 (Prod.fst (List.getD l2 (Int.toNat x0) zz4)),.int .i64 (Prod.fst (Prod.snd (List.getD l2 (Int.toNat x0) zz4))),.int .i64 (Prod.fst (Prod.snd (Prod.snd (List.getD l2 (Int.toNat x0) zz4)))),.int .i64 (Prod.snd (Prod.snd (Prod.snd (List.getD l2 (Int.toNat x0) zz4))))]]).bind fun r0=>
 cond (decide (List.length (l54++[D.toInt (nth r0 1)])≤bigLen))
 (lp k spec_RunActs [] fu 6 n (wA (q0m (IntKind.wrap .i64 (x0+1)) z1 l2 z3 l4 z5 l6 z7 l8 z9 l10 x11 x12 x13 x14 x15 x16 x17 x18 x19 x20 x21 x22 x23 x24 x25 x26 x27) (nth r0 0) (z53&&decide (List.length (l54++[D.toInt (nth r0 1)])=0)) (l54++[D.toInt (nth r0 1)])))
 none)
 none)
 (some [wV true x36 z28 l29 z30 l31 z32 l33 z34 l35 x37 x38 x39 x40 x41 x42 x43 x44 x45 x46 x47 x48 x49 x50 x51 x52,.arr true z53 (.ints .i64 l54)]):=by kernel_rfl
def qzg (x0 x1:Int)(z2:Bool)(l3:L3)(z4:Bool)(l5:LI)(z6:Bool)(l7:LI)(z8:Bool)(l9:LI)(x10 x11 x12 x13 x14 x15 x16 x17 x18 x19 x20 x21 x22 x23 x24 x25 x26:Int)(z27:Bool)(l28:L3)(z29:Bool)(l30:LI)(z31:Bool)(l32:LI)(z33:Bool)(l34:LI)(x35 x36 x37 x38 x39 x40 x41 x42 x43 x44 x45 x46 x47 x48 x49 x50 x51:Int)(z52:Bool)(l53:LI)(z54:Bool)(l55:L4):St:=⟨fill 44 [(4,.ptr 4 0 0),(6,.ptr 9 0 0),(7,.sl 10 none),(24,.sl 11 none),(25,.int .i64 x0),(26,.int .i64 x1)],[],[.arr true z2 (.r3 l3),.arr true z4 (.ints .i64 l5),.arr true z6 (.ints .i64 l7),.arr true z8 (.ints .i64 l9),wB true 0 x10 x11 x12 x13 x14 x15 x16 x17 x18 x19 x20 x21 x22 x23 x24 x25 x26,.arr true z27 (.r3 l28),.arr true z29 (.ints .i64 l30),.arr true z31 (.ints .i64 l32),.arr true z33 (.ints .i64 l34),wB true 5 x35 x36 x37 x38 x39 x40 x41 x42 x43 x44 x45 x46 x47 x48 x49 x50 x51,.arr true z52 (.ints .i64 l53),.arr false z54 (.r4 l55)]⟩
theorem qj6 (k:Nat)(a0:Int)(a1z:Bool)(a1:L3)(a2z:Bool)(a2:LI)(a3z:Bool)(a3:LI)(a4z:Bool)(a4:LI)(a5 a6 a7 a8 a9 a10 a11 a12 a13 a14 a15 a16 a17 a18 a19 a20:Int)(bz:Bool)(b:L4):go (k+1) impl_RunActs [wV false a0 a1z a1 a2z a2 a3z a3 a4z a4 a5 a6 a7 a8 a9 a10 a11 a12 a13 a14 a15 a16 a17 a18 a19 a20,.arr false bz (.r4 b)]=
 (go k impl_copyWorld [wV false a0 a1z a1 a2z a2 a3z a3 a4z a4 a5 a6 a7 a8 a9 a10 a11 a12 a13 a14 a15 a16 a17 a18 a19 a20]).bind fun r0=>
 (go k impl_WorldOk [wV false a0 a1z a1 a2z a2 a3z a3 a4z a4 a5 a6 a7 a8 a9 a10 a11 a12 a13 a14 a15 a16 a17 a18 a19 a20]).bind fun r1=>
 cond (!bit (nth r1 0))
 (some [wC true (nth r0 0),.arr true true (.ints .i64 [])])
 (cond (decide (30<nI (List.length b)))
 (some [wC true (nth r0 0),.arr true true (.ints .i64 [])])
 (lp k impl_RunActs [] [] 6 k (wA (qzg (nI (List.length b)) 0 true [] true [] true [] true [] 0 0 0 0 0 0 0 0 0 0 0 0 0 0 0 0 0) (nth r0 0) false [] bz b))):=by kernel_rfl
theorem qrj (k n:Nat)(fu:FU)(x0 x1:Int)(z2:Bool)(l3:L3)(z4:Bool)(l5:LI)(z6:Bool)(l7:LI)(z8:Bool)(l9:LI)(x10 x11 x12 x13 x14 x15 x16 x17 x18 x19 x20 x21 x22 x23 x24 x25 x26:Int)(z27:Bool)(l28:L3)(z29:Bool)(l30:LI)(z31:Bool)(l32:LI)(z33:Bool)(l34:LI)(x35 x36 x37 x38 x39 x40 x41 x42 x43 x44 x45 x46 x47 x48 x49 x50 x51:Int)(z52:Bool)(l53:LI)(z54:Bool)(l55:L4):lp k impl_RunActs [] fu 6 (n+1) (qzg x0 x1 z2 l3 z4 l5 z6 l7 z8 l9 x10 x11 x12 x13 x14 x15 x16 x17 x18 x19 x20 x21 x22 x23 x24 x25 x26 z27 l28 z29 l30 z31 l32 z33 l34 x35 x36 x37 x38 x39 x40 x41 x42 x43 x44 x45 x46 x47 x48 x49 x50 x51 z52 l53 z54 l55)=
 cond (decide (x1<x0))
 (cond (decide (0≤x1)&&decide (x1<nI (List.length l55)))
 ((go k impl_DoAct [wV false x35 z27 l28 z29 l30 z31 l32 z33 l34 x36 x37 x38 x39 x40 x41 x42 x43 x44 x45 x46 x47 x48 x49 x50 x51,.agg [.int .i64 (Prod.fst (List.getD l55 (Int.toNat x1) zz4)),.int .i64 (Prod.fst (Prod.snd (List.getD l55 (Int.toNat x1) zz4))),.int .i64 (Prod.fst (Prod.snd (Prod.snd (List.getD l55 (Int.toNat x1) zz4)))),.int .i64 (Prod.snd (Prod.snd (Prod.snd (List.getD l55 (Int.toNat x1) zz4))))]]).bind fun r0=>
 cond (decide (List.length (l53++[D.toInt (nth r0 1)])≤bigLen))
 (lp k impl_RunActs [] fu 6 n (wA (qzg x0 (IntKind.wrap .i64 (x1+1)) z2 l3 z4 l5 z6 l7 z8 l9 x10 x11 x12 x13 x14 x15 x16 x17 x18 x19 x20 x21 x22 x23 x24 x25 x26) (nth r0 0) (z52&&decide (List.length (l53++[D.toInt (nth r0 1)])=0)) (l53++[D.toInt (nth r0 1)]) z54 l55))
 none)
 none)
 (some [wV true x35 z27 l28 z29 l30 z31 l32 z33 l34 x36 x37 x38 x39 x40 x41 x42 x43 x44 x45 x46 x47 x48 x49 x50 x51,.arr true z52 (.ints .i64 l53)]):=by kernel_rfl

end Go.Proofs.YtjfjniebmdafeaaGreatDoor
end
