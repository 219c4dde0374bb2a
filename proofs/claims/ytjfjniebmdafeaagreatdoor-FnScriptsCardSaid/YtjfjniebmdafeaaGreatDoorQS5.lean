/- What the program's functions compute, and plain facts of it (part 5). No condition beyond those that each theorem states. -/
import Derived.Test.YtjfjniebmdafeaaGreatDoorQS4
set_option linter.unusedVariables false
set_option linter.unusedSimpArgs false
section
namespace Go.Proofs.YtjfjniebmdafeaaGreatDoor
open Go.Ev
set_option maxRecDepth 20000
theorem qvj {u v B:Int}(hu:0≤u∧u<2)(hv:0≤v∧v<B):0≤u*v∧u*v<B:=by
  have h1:0≤u*v:=Int.mul_nonneg hu.1 hv.1
  have h2:u*v≤1*v:=Int.mul_le_mul_of_nonneg_right (by omega) hv.1
  omega
theorem qgu (k:Nat)(hk:2000000≤k)(z:Bool)(l:List Int)(i h:Int)(hl:(l.length:Int)≤1048576)(h0:0≤i)(h1:i≤l.length):
    ∃ (b0 b1 b2 i' h' :Int),go (k+3) spec_l13Border [.ptr true [.arr false (z) (.ints .u8 (l)),.int .i64 (i),.int .i64 (h)]]=some [.agg [.int .i64 b0,.int .i64 b1,.int .i64 b2],.ptr true [.arr false (z) (.ints .u8 (l)),.int .i64 (i'),.int .i64 (h')]]∧(0≤i' ∧i' ≤l.length)∧qb2 b0 b1 b2=true∧b0≤3000:=by
  have e:=qnj (k+2) z l i h
  obtain ⟨u1,i1,k1,e1,b1,q1,r1⟩:=qf5 k (by omega) z l i h 2 hl h0 h1 (by omega) (by omega)
  obtain ⟨u2,i2,k2,e2,b2,q2,r2⟩:=qf5 k (by omega) z l i1 k1 3000 hl q1 r1 (by omega) (by omega)
  obtain ⟨u3,i3,k3,e3,b3,q3,r3⟩:=qf5 k (by omega) z l i2 k2 1001 hl q2 r2 (by omega) (by omega)
  obtain ⟨u4,i4,k4,e4,b4,q4,r4⟩:=qf5 k (by omega) z l i3 k3 2 hl q3 r3 (by omega) (by omega)
  obtain ⟨u5,i5,k5,e5,b5,q5,r5⟩:=qf5 k (by omega) z l i4 k4 251 hl q4 r4 (by omega) (by omega)
  have m1:=qvj b1 b2; have m2:=qvj b4 b5
  simp (disch:=omega) only [wk,bit,nI,e1,e2,e3,e4,e5,qwt,qwu,qwv] at e
  exact ⟨_,_,_,_,_,e,⟨q5,r5⟩,by simp only [qb2,Bool.and_eq_true,qpe]; omega,by omega⟩
structure PlD (p:Pl):Prop where
  ok:qwn p.bi p.bs p.bo p.rain p.loss p.dec p.high p.low p.every=true
  bi:p.bi≤3000
  rain:p.rain≤900
theorem qgz (k:Nat)(hk:2000000≤k)(z:Bool)(l:List Int)(i h:Int)(hl:(l.length:Int)≤1048576)(h0:0≤i)(h1:i≤l.length):
    ∃ (p:Pl)(i' h' :Int),go (k+4) spec_l18Plan [.ptr true [.arr false (z) (.ints .u8 (l)),.int .i64 (i),.int .i64 (h)]]=some [plD p,.ptr true [.arr false (z) (.ints .u8 (l)),.int .i64 (i'),.int .i64 (h')]]∧(0≤i' ∧i' ≤l.length)∧PlD p:=by
  have e:=qns (k+3) z l i h
  obtain ⟨c0,c1,c2,i1,k1,e1,⟨q1,r1⟩,hb,hc⟩:=qgu k (by omega) z l i h hl h0 h1
  obtain ⟨u2,i2,k2,e2,b2,q2,r2⟩:=qf5 (k+1) (by omega) z l i1 k1 2 hl q1 r1 (by omega) (by omega)
  obtain ⟨u3,i3,k3,e3,b3,q3,r3⟩:=qf5 (k+1) (by omega) z l i2 k2 900 hl q2 r2 (by omega) (by omega)
  obtain ⟨u4,i4,k4,e4,b4,q4,r4⟩:=qf5 (k+1) (by omega) z l i3 k3 2 hl q3 r3 (by omega) (by omega)
  obtain ⟨u5,i5,k5,e5,b5,q5,r5⟩:=qf5 (k+1) (by omega) z l i4 k4 400 hl q4 r4 (by omega) (by omega)
  obtain ⟨u6,i6,k6,e6,b6,q6,r6⟩:=qf5 (k+1) (by omega) z l i5 k5 2 hl q5 r5 (by omega) (by omega)
  obtain ⟨u7,i7,k7,e7,b7,q7,r7⟩:=qf5 (k+1) (by omega) z l i6 k6 200 hl q6 r6 (by omega) (by omega)
  obtain ⟨u8,i8,k8,e8,b8,q8,r8⟩:=qf5 (k+1) (by omega) z l i7 k7 4000 hl q7 r7 (by omega) (by omega)
  obtain ⟨u9,i9,k9,e9,b9,q9,r9⟩:=qf5 (k+1) (by omega) z l i8 k8 300 hl q8 r8 (by omega) (by omega)
  obtain ⟨u10,i10,k10,e10,b10,q10,r10⟩:=qf5 (k+1) (by omega) z l i9 k9 3 hl q9 r9 (by omega) (by omega)
  have m1:=qvj b2 b3; have m2:=qvj b4 b5; have m3:=qvj b6 b7
  simp (disch:=omega) only [wk,bit,nI,e1,e2,e3,e4,e5,e6,e7,e8,e9,e10,qwt,qwu,qwv] at e
  refine ⟨⟨c0,c1,c2,u2*u3,u4*u5,u6*u7,200+u8,u9,u10⟩,_,_,e,⟨q10,r10⟩,⟨?_,hc,by show u2*u3≤900; omega⟩⟩
  simp only [qwn,Bool.and_eq_true,qpe]; exact ⟨hb,by omega,by omega,by omega,by omega,by omega,by omega⟩
def nwW (r:Int)(l:List Cell)(m t b:List Int)(p:Pl):Wd:=⟨r,(l,m,t),b,p,0,⟨0,0,0,0⟩,isum m,isum t⟩
theorem z0:(0:Int)≤0∧(0:Int)≤((0:Nat):Int):=by decide
theorem z0' :(0:Int)≤0∧(0:Int)≤40000000000*((0:Nat):Int):=by decide
theorem qvu {r:Int}{l:List Cell}{m t b:List Int}(F:StF r l m t b){p:Pl}(P:PlD p):Good (nwW r l m t b p) 0:=
  ⟨F,P.ok,z0,⟨z0',z0',z0',z0'⟩,by show isum m - 0+0=isum m; omega,by show isum t - 0+0=isum t; omega⟩
theorem qf0 (k:Nat)(hk:2000000≤k)(r:Int)(l:List Cell)(m t b:List Int)(F:StF r l m t b)(p:Pl)(P:PlD p):
    go (k+8) spec_WorldNew [.agg [.int .i64 (r),.arr false (false) (.r3 (l)),.arr false (false) (.ints .i64 (m)),.arr false (false) (.ints .i64 (t)),.arr false (false) (.ints .i64 (b))],plD p]=some [wdO (nwW r l m t b p),.bool true]:=by
  have:=F.len; have:=F.bl; have:=F.rr
  have e:=qfz k hk r l m t b p.bi p.bs p.bo p.rain p.loss p.dec p.high p.low p.every (by omega) (by omega)
  rw [stF.2 F,P.ok] at e
  exact e
set_option maxHeartbeats 1000000 in
theorem qg3 (k:Nat)(hk:2000000≤k)(z:Bool)(l:List Int)(i h:Int)(hl:(l.length:Int)≤1048576)(h0:0≤i)(h1:i≤l.length):
    ∃ (a b c d i' h' :Int),go (k+3) spec_l37Act [.ptr true [.arr false (z) (.ints .u8 (l)),.int .i64 (i),.int .i64 (h)]]=some [.agg [.int .i64 a,.int .i64 b,.int .i64 c,.int .i64 d],.ptr true [.arr false (z) (.ints .u8 (l)),.int .i64 (i'),.int .i64 (h')]]∧(0≤i' ∧i' ≤l.length)∧Act1 (a,b,c,d):=by
  have e:=qnv (k+2) z l i h
  obtain ⟨u1,i1,k1,e1,b1,q1,r1⟩:=qf5 k (by omega) z l i h 8 hl h0 h1 (by omega) (by omega)
  have D:=fun (i:Int)(h:Int)(B:Int)(p:0≤i)(q:i≤l.length)(p1:1≤B)(p2:B≤5000)=>qf5 k (by omega) z l i h B hl p q (by omega) (by omega)
  by_cases g0:u1=0
  · obtain ⟨u2,i2,k2,e2,b2,q2,r2⟩:=D i1 k1 900 q1 r1 (by omega) (by omega)
    simp (disch:=omega) only [wk,bit,nI,e1,qwt,qwu,qwv,g0,e2] at e
    exact ⟨_,_,_,_,_,_,e,⟨q2,r2⟩,by show qav _ _ _ _=true; simp [qav,sgl,qb2,qpe]; omega⟩
  by_cases g1:u1=1
  · obtain ⟨u2,i2,k2,e2,b2,q2,r2⟩:=D i1 k1 900 q1 r1 (by omega) (by omega)
    simp (disch:=omega) only [wk,bit,nI,e1,qwt,qwu,qwv,g1,e2] at e
    exact ⟨_,_,_,_,_,_,e,⟨q2,r2⟩,by show qav _ _ _ _=true; simp [qav,sgl,qb2,qpe]; omega⟩
  by_cases g2:u1=2
  · obtain ⟨u2,i2,k2,e2,b2,q2,r2⟩:=D i1 k1 3000 q1 r1 (by omega) (by omega)
    obtain ⟨u3,i3,k3,e3,b3,q3,r3⟩:=D i2 k2 1001 q2 r2 (by omega) (by omega)
    obtain ⟨u4,i4,k4,e4,b4,q4,r4⟩:=D i3 k3 251 q3 r3 (by omega) (by omega)
    simp (disch:=omega) only [wk,bit,nI,e1,qwt,qwu,qwv,g2,e2,e3,e4] at e
    exact ⟨_,_,_,_,_,_,e,⟨q4,r4⟩,by show qav _ _ _ _=true; simp [qav,sgl,qb2,qpe]; omega⟩
  by_cases g3:u1=3
  · obtain ⟨u2,i2,k2,e2,b2,q2,r2⟩:=D i1 k1 300 q1 r1 (by omega) (by omega)
    simp (disch:=omega) only [wk,bit,nI,e1,qwt,qwu,qwv,g3,e2] at e
    exact ⟨_,_,_,_,_,_,e,⟨q2,r2⟩,by show qav _ _ _ _=true; simp [qav,sgl,qb2,qpe]; omega⟩
  by_cases g4:u1=4
  · obtain ⟨u2,i2,k2,e2,b2,q2,r2⟩:=D i1 k1 3000 q1 r1 (by omega) (by omega)
    obtain ⟨u3,i3,k3,e3,b3,q3,r3⟩:=D i2 k2 400 q2 r2 (by omega) (by omega)
    obtain ⟨u4,i4,k4,e4,b4,q4,r4⟩:=D i3 k3 3 q3 r3 (by omega) (by omega)
    simp (disch:=omega) only [wk,bit,nI,e1,qwt,qwu,qwv,g4,e2,e3,e4] at e
    exact ⟨_,_,_,_,_,_,e,⟨q4,r4⟩,by show qav _ _ _ _=true; simp [qav,sgl,qb2,qpe]; omega⟩
  by_cases g5:u1=5
  · obtain ⟨u2,i2,k2,e2,b2,q2,r2⟩:=D i1 k1 40 q1 r1 (by omega) (by omega)
    obtain ⟨u3,i3,k3,e3,b3,q3,r3⟩:=D i2 k2 5000 q2 r2 (by omega) (by omega)
    obtain ⟨u4,i4,k4,e4,b4,q4,r4⟩:=D i3 k3 1001 q3 r3 (by omega) (by omega)
    simp (disch:=omega) only [wk,bit,nI,e1,qwt,qwu,qwv,g5,e2,e3,e4] at e
    exact ⟨_,_,_,_,_,_,e,⟨q4,r4⟩,by show qav _ _ _ _=true; simp [qav,sgl,qb2,qpe]; omega⟩
  · obtain ⟨u2,i2,k2,e2,b2,q2,r2⟩:=D i1 k1 3 q1 r1 (by omega) (by omega)
    simp (disch:=omega) only [wk,bit,nI,e1,qwt,qwu,qwv,e2] at e
    exact ⟨_,_,_,_,_,_,e,⟨q2,r2⟩,by show qav _ _ _ _=true; simp [qav,sgl,qb2,qpe]; omega⟩
theorem qun (k:Nat)(hk:2000000≤k)(fu:List (Nat×Nat))(v0:Bool)(v1:List Int)(v2 v3:Int)(z:Bool)(l:List Int)(hl:(l.length:Int)≤1048576):
    ∀ (n i:Nat)(j h:Int)(A:Acts),i≤6→6 - i<n→0≤j→j≤l.length→A.length=i→(∀ x∈A,Act1 x)→
    ∃ (A' :Acts)(j' h' :Int),lp (k+3) spec_l37Acts [(.ptr true [(.arr false (v0) (.ints IntKind.u8 (v1))),(.int .i64 (v2)),(.int .i64 (v3))])] fu 3 (n) (qzx (i:Int) z l j h false A)=some [.arr true false (.r4 A'),.ptr true [.arr false (z) (.ints .u8 (l)),.int .i64 (j'),.int .i64 (h')]]∧A'.length≤6∧(∀ x∈A',Act1 x)
  | 0,i,j,h,A,hi,hn,h0,h1,hA,ok=>by omega
  | n+1,i,j,h,A,hi,hn,h0,h1,hA,ok=>by
    have e:=qsc (k+3) n fu v0 v1 v2 v3 (i:Int) z l j h false A
    obtain ⟨u1,i1,k1,e1,b1,q1,r1⟩:=qf5 (k+1) (by omega) z l j h 7 hl h0 h1 (by omega) (by omega)
    by_cases g:(i:Int)<u1
    · obtain ⟨a,b,c,d,i2,k2,e2,q2,o2⟩:=qg3 k (by omega) z l i1 k1 hl q1 r1
      have la:(A++[(a,b,c,d)]).length=i+1:=by rw [List.length_append,hA]; rfl
      obtain ⟨A',j',h',e5,p5⟩:=qun k hk fu v0 v1 v2 v3 z l hl n (i+1) i2 k2 (A++[(a,b,c,d)]) (by omega) (by omega) q2.1 q2.2 la (fun x hx=>by
        rcases List.mem_append.1 hx with hx | hx
        · exact ok x hx
        · rw [List.mem_singleton] at hx; rw [hx]; exact o2)
      simp (disch:=omega) only [wk,bit,nI,e1,qwt,qwu,qwv,e2,la,e5] at e
      exact ⟨A',j',h',e,p5⟩
    · simp (disch:=omega) only [wk,bit,nI,e1,qwt,qwu,qwv] at e
      exact ⟨A,_,_,e,by omega,ok⟩
theorem qg4 (k:Nat)(hk:2000000≤k)(z:Bool)(l:List Int)(i h:Int)(hl:(l.length:Int)≤1048576)(h0:0≤i)(h1:i≤l.length):
    ∃ (A:Acts)(i' h' :Int),go (k+4) spec_l37Acts [.ptr true [.arr false (z) (.ints .u8 (l)),.int .i64 (i),.int .i64 (h)]]=some [.arr true false (.r4 A),.ptr true [.arr false (z) (.ints .u8 (l)),.int .i64 (i'),.int .i64 (h')]]∧A.length≤6∧(∀ x∈A,Act1 x):=by
  have e:=qnw (k+3) z l i h
  obtain ⟨A,j',h',e5,p5⟩:=qun k hk [] z l i h z l hl (k+3) 0 i h [] (by omega) (by omega) h0 h1 rfl (fun x hx=>by cases hx)
  rw [show ((0:Nat):Int)=0 from rfl] at e5
  exact ⟨A,j',h',e.trans e5,p5⟩
theorem qt6 (k:Nat)(hk:2000000≤k)(fu:List (Nat×Nat))(z:Bool)(l:List Int)(hl:(l.length:Int)≤1048576)(z4:Bool)(l5:List Cell)(z6:Bool)(l7:List Int)(z8:Bool)(l9:List Int)(z10:Bool)(l11:List Int)(x12 x13 x14 x15 x16 x17 x18 x19 x20 x21 x22 x23 x24 x25 x26 x27 x28:Int)(z29:Bool)(l30:Acts):
    ∀ (n t:Nat)(h:Int),t≤l.length→l.length - t<n→
    ∃ (w:Wd)(A:Acts),lp (k+11) spec_DrawActs [] fu 2800003 (n) (qy7 h (t:Int) z l z4 l5 z6 l7 z8 l9 z10 l11 x12 x13 x14 x15 x16 x17 x18 x19 x20 x21 x22 x23 x24 x25 x26 x27 x28 z29 l30)=some [wdO w,.arr true false (.r4 A)]∧Good w 0∧A.length≤6∧(∀ x∈A,Act1 x)
  | 0,t,h,ht,hn=>by omega
  | n+1,t,h,ht,hn=>by
    have e:=qrm (k+11) n fu h (t:Int) z l z4 l5 z6 l7 z8 l9 z10 l11 x12 x13 x14 x15 x16 x17 x18 x19 x20 x21 x22 x23 x24 x25 x26 x27 x28 z29 l30
    obtain ⟨r,c,m,tr,b,i1,k1,e1,q1,F,r3,sm⟩:=qgl k (by omega) z l 0 h hl (by omega) (by omega)
    obtain ⟨p,i2,k2,e2,q2,P⟩:=qgz (k+7) (by omega) z l i1 k1 hl q1.1 q1.2
    have eN:=qf0 (k+3) (by omega) r c m tr b F p P
    obtain ⟨A,i4,k4,e4,p4⟩:=qg4 (k+7) (by omega) z l i2 k2 hl q2.1 q2.2
    by_cases g:t<l.length
    · by_cases g2:(t:Int)<4000
      · simp (disch:=omega) only [wk,bit,nI] at e
        obtain ⟨w,A,e3,p3⟩:=qt6 k hk fu z l hl z4 l5 z6 l7 z8 l9 z10 l11 x12 x13 x14 x15 x16 x17 x18 x19 x20 x21 x22 x23 x24 x25 x26 x27 x28 z29 l30 n (t+1) _ (by omega) (by omega)
        exact ⟨w,A,e.trans e3,p3⟩
      · simp (disch:=omega) only [wk,bit,nI,e1,qwt,qwu,qwv,e2,eN,e4] at e
        exact ⟨nwW r c m tr b p,A,e,qvu F P,p4⟩
    · simp (disch:=omega) only [wk,bit,nI,e1,qwt,qwu,qwv,e2,eN,e4] at e
      exact ⟨nwW r c m tr b p,A,e,qvu F P,p4⟩
theorem qe8 (k:Nat)(hk:2000000≤k)(z:Bool)(l:List Int)(hl:(l.length:Int)≤1048576):
    ∃ (w:Wd)(A:Acts),go (k+12) spec_DrawActs [.arr false z (.ints .u8 l)]=some [wdO w,.arr true false (.r4 A)]∧Good w 0∧A.length≤6∧(∀ x∈A,Act1 x):=by
  have e:=ql1 (k+11) z l
  obtain ⟨w,A,e3,p3⟩:=qt6 k hk [] z l hl true [] true [] true [] true [] 0 0 0 0 0 0 0 0 0 0 0 0 0 0 0 0 0 true [] (k+11) 0 (IntKind.wrap .i64 (98231+nI l.length)) (by omega) (by omega)
  rw [show ((0:Nat):Int)=0 from rfl] at e3
  exact ⟨w,A,e.trans e3,p3⟩
end Go.Proofs.YtjfjniebmdafeaaGreatDoor
end
section
namespace Go.Proofs.YtjfjniebmdafeaaGreatDoor
open Go.Ev
set_option maxRecDepth 20000
theorem q2w {b:UInt8}(h:wdc b=true):okc b=true:=by
  simp only [wdc,okc,Bool.and_eq_true,decide_eq_true_eq] at h ⊢; omega
theorem qp7: ∀ (ws:List (List UInt8)),ws.all isWd=true→(Lib.join ws [32]).all okc=true:=by
  have one: ∀ w:List UInt8,isWd w=true→w.all okc=true:=fun w h=>by
    simp only [isWd,Bool.and_eq_true] at h
    rw [List.all_eq_true]
    exact fun b hb=>q2w (List.all_eq_true.1 h.2 b hb)
  have tl: ∀ l:List (List UInt8),l.all isWd=true→(Lib.joinTail [32] l).all okc=true:=by
    intro l
    induction l with
    | nil=>intro _; rfl
    | cons a l ih=>
      intro h
      rw [List.all_cons,Bool.and_eq_true] at h
      have e:Lib.joinTail [32] (a::l)=32::(a++Lib.joinTail [32] l):=by simp [Lib.joinTail]
      rw [e,List.all_cons,List.all_append,one a h.1,ih h.2]; decide
  intro ws
  cases ws with
  | nil=>intro _; rfl
  | cons x r=>
    intro h
    rw [List.all_cons,Bool.and_eq_true] at h
    rw [Lib.join_cons,List.all_append,one x h.1,tl r h.2]; rfl
theorem qbe (a b c d:Int):2≤(awd a b c d).length∧(awd a b c d).length≤4:=by
  unfold awd; split<;>simp
theorem qbd {a b c d a' b' c' d' :Int}(h:qav a b c d=true)(h' :qav a' b' c' d' =true)(e:awd a b c d=awd a' b' c' d'):a=a' ∧b=b' ∧c=c' ∧d=d' :=by
  obtain ⟨x,r,hx⟩: ∃ x r,awd a b c d=x::r:=by
    cases g:awd a b c d with
    | nil=>have:=(qbe a b c d).1; rw [g] at this; simp at this
    | cons x r=>exact ⟨x,r,rfl⟩
  have v:=q2s (f:=atoiV) (fun n h=>qpx h) h hx.symm
  have v' :=q2s (f:=atoiV) (fun n h=>qpx h) h' (hx.symm.trans e)
  exact ⟨qvq (qay h) (qay h') (v.1.symm.trans v'.1),v.2.1.symm.trans v'.2.1,v.2.2.1.symm.trans v'.2.2.1,v.2.2.2.symm.trans v'.2.2.2⟩
theorem qaz {x:A4}(h:aOk x=true):Lib.fields (aL x)=awd x.1 x.2.1 x.2.2.1 x.2.2.2:=by
  show Lib.fields (actL x.1 x.2.1 x.2.2.1 x.2.2.2)=_
  rw [qau,qoa _ (qbf h)]
theorem qa2 {x:A4}(h:aOk x=true):q0o (aL x)=true:=by
  have l:=qap h
  have f:=qaz h
  have w:=qbe x.1 x.2.1 x.2.2.1 x.2.2.2
  unfold q0o
  rw [f,decide_eq_true (by omega:(aL x).length≤600),decide_eq_true (by omega:(awd x.1 x.2.1 x.2.2.1 x.2.2.2).length≤24),Bool.true_and,Bool.and_true]
  show (actL x.1 x.2.1 x.2.2.1 x.2.2.2).all okc=true
  rw [qau]
  exact qp7 _ (qbf h)
theorem qws {x:A4}(h:aOk x=true):prsA (aL x)=some x:=by
  have f:=qaz h
  have lo:qsn (aL x):=⟨qa2 h,by rw [f]; exact (qbe _ _ _ _).1,by rw [f]; exact (qbe _ _ _ _).2⟩
  have li:qsm (aL x) x:=⟨h,by rw [f]; exact qau _ _ _ _⟩
  have ex: ∃ y,qsm (aL x) y:=⟨x,li⟩
  have e:prsA (aL x)=some ex.choose:=dif_pos ⟨lo,ex⟩
  have hy:=ex.choose_spec
  generalize ex.choose=y at e hy
  rw [e]
  have fy:=qaz hy.1
  have:aL y=aL x:=by rw [hy.2,← li.2]
  rw [this,f] at fy
  obtain ⟨a,b,c,d⟩:=x
  obtain ⟨a',b',c',d'⟩:=y
  have:=qbd h hy.1 fy
  simp only at this
  rw [this.1,this.2.1,this.2.2.1,this.2.2.2]
end Go.Proofs.YtjfjniebmdafeaaGreatDoor
end
section
namespace Go.Proofs.YtjfjniebmdafeaaGreatDoor
open Go.Ev
set_option maxRecDepth 20000
theorem qes (k:Nat)(hk:2000000≤k)(z:Bool)(l:List Int):go (k+1) laws_big [.arr false z (.ints .u8 l)]=some [.bool (decide (1048576<(l.length:Int)))]:=by
  rw [qlj]
theorem qt3 (k:Nat)(hk:2000000≤k)(fu:List (Nat×Nat))(z z' :Bool)(l:List ByteArray)(hl:(l.length:Int)≤1048576): ∀ (n i:Nat),i≤l.length→l.length - i<n→
    lp k laws_sameTexts [] fu 4 (n) (qyy (i:Int) z l z' l)=some [.bool true]
  | 0,i,hi,hn=>by omega
  | n+1,i,hi,hn=>by
    rw [qrd]
    by_cases g:i<l.length
    · have IH:=qt3 k hk fu z z' l hl n (i+1) (by omega) (by omega)
      simp (disch:=omega) only [wk,bit,nI,IH,dT rfl]
    · simp (disch:=omega) only [wk,bit,nI]
theorem qet (k:Nat)(hk:2000000≤k)(z z' :Bool)(l:List ByteArray)(hl:(l.length:Int)≤1048576):go (k+1) laws_sameTexts [.arr false z (.strs l),.arr false z' (.strs l)]=some [.bool true]:=by
  rw [qlk]
  have e:=qt3 k hk [] z z' l hl (k+0) 0 (by omega) (by omega)
  rw [show ((0:Nat):Int)=0 from rfl] at e
  simp (disch:=omega) only [wk,bit,nI]
  exact e
abbrev NOTH:List UInt8:=[110,111,116,104,105,110,103]
theorem qsu: ∀ (w cur r:List UInt8),w.all okc=true→linesGo cur (w++10::r)=(cur++w)::linesGo [] r
  | [],cur,r,h=>by
    rw [List.nil_append,linesGo,decide_eq_true rfl,qie,List.append_nil]
  | b::w,cur,r,h=>by
    rw [List.all_cons,Bool.and_eq_true] at h
    have n:¬ b=10:=fun e=>by rw [e] at h; exact absurd h.1 (by decide)
    rw [List.cons_append,linesGo,decide_eq_false n,qic,qsu w _ r h.2,List.append_assoc]; rfl
theorem qst (r:List UInt8): ∀ (A:Acts),A.all aOk=true→linesGo [] (scrL A++r)=A.map aL++linesGo [] r
  | [],h=>by simp [scrL]
  | x::A,h=>by
    rw [List.all_cons,Bool.and_eq_true] at h
    have s:=qa2 h.1
    simp only [q0o,Bool.and_eq_true] at s
    have e:scrL (x::A)++r=aL x++10::(scrL A++r):=by simp [scrL]
    rw [e,qsu _ _ _ s.2.1,qst r A h.2,List.map_cons]; rfl
theorem qbv {x:A4}(h:aOk x=true):qbu (aL x)=false:=by
  unfold qbu
  have:(wordsL (aL x)).length=(Lib.fields (aL x)).length:=List.length_map ..
  have w:=(qbe x.1 x.2.1 x.2.2.1 x.2.2.2).1
  rw [this,qaz h,decide_eq_false (by omega),Bool.and_false]
theorem qzy (tl:List (List UInt8)): ∀ (A acc:Acts),A.all aOk=true→scrP (A.map aL++tl) acc=scrP tl (acc++A)
  | [],acc,h=>by simp
  | x::A,acc,h=>by
    rw [List.all_cons,Bool.and_eq_true] at h
    rw [List.map_cons,List.cons_append,scrP,qbv h.1,qic,qws h.1]
    show scrP (A.map aL++tl) (acc++[x])=_
    rw [qzy tl A _ h.2,List.append_assoc]; rfl
theorem qxx {w:Wd}(hw:wdOk w=true){A:Acts}(hA:A.all aOk=true)(hl:A.length≤6):rsP w (scrL A)=some (qxv w A):=by
  have sl:=qzz A hA
  unfold rsP
  rw [decide_eq_true (by omega),hw]
  have l:=qst [] A hA
  rw [List.append_nil] at l
  show rsL w (linesGo [] (scrL A)) []=_
  rw [l]
  unfold rsL
  rw [qzy _ A [] hA]
  have b:qbu []=true:=by decide
  show (scrP [[]] ([]++A)).bind (rsA w)=_
  rw [scrP,b]
  show rsA w ([]++A)=_
  rw [List.nil_append]
  unfold rsA
  rw [decide_eq_true (by omega)]; rfl
theorem qxw {w:Wd}{A:Acts}(hA:A.all aOk=true)(hl:A.length≤6):rsP w (scrL A++NOTH)=none:=by
  unfold rsP
  cases decide ((scrL A++NOTH).length≤20000)&&wdOk w
  · rfl
  show rsL w (linesGo [] (scrL A++NOTH)) []=_
  rw [qst NOTH A hA]
  unfold rsL
  rw [qzy _ A [] hA]
  have f:Lib.fields NOTH=[NOTH]:=by decide
  have b:qbu NOTH=false:=by
    unfold qbu wordsL
    rw [f]; simp
  have p:prsA NOTH=none:=dif_neg (fun h=>by have:=h.1.2.1; rw [f] at this; simp at this)
  show (scrP [NOTH] ([]++A)).bind (rsA w)=_
  rw [scrP,b,p]; rfl
set_option maxHeartbeats 4000000 in
theorem qs6 (k:Nat)(hk:2000000≤k)(fu:List (Nat×Nat))(w x:Wd)(S:Sml w)(SX:Sml x)(t:List UInt8)(ht:t.length≤20000)(hb:rsP w (t++NOTH)=none)(ns:List Int)(hn:ns.length≤30)(hi64: ∀ i,i<ns.length→inI64 (ns.getD i 0)=true): ∀ (N i:Nat)(L:List ByteArray),L=fmtI (ns.take i)→i≤ns.length→ns.length - i<N→
    lp (k+16) laws_FnScripts [] fu 9 (N) (qyx (ba t) true (i:Int) false w.s.1 false w.s.2.1 false w.s.2.2 false w.b w.r w.p.bi w.p.bs w.p.bo w.p.rain w.p.loss w.p.dec w.p.high w.p.low w.p.every w.k w.ld.mi w.ld.mo w.ld.ti w.ld.ou w.f w.g false (fmtI ns++fwT x) false x.s.1 false x.s.2.1 false x.s.2.2 false x.b x.r x.p.bi x.p.bs x.p.bo x.p.rain x.p.loss x.p.dec x.p.high x.p.low x.p.every x.k x.ld.mi x.ld.mo x.ld.ti x.ld.ou x.f x.g false ns false L)=some [.bool true]
  | 0,i,L,eL,hi,hN=>by omega
  | N+1,i,L,eL,hi,hN=>by
    rw [qrc]
    have bl:bigLen=1099511627776:=rfl
    have Ll:L.length=i:=by rw [eL]; simp; omega
    by_cases g:i<ns.length
    · have eF:=qfd (k+14) (by omega) _ (hi64 i g)
      have IH:=qs6 k hk fu w x S SX t ht hb ns hn hi64 N (i+1) (L++[ba (Lib.itoa (ns.getD i 0))]) (by rw [eL,qoo g]) (by omega) (by omega)
      simp (disch:=omega) only [wk,bit,nI,eF,bl,Ll,List.length_append,List.length_cons,List.length_nil]
      exact IH
    · obtain rfl:i=ns.length:=by omega
      rw [List.take_length] at eL
      have eF:=qff (k+7) (by omega) x SX
      have fl:=qor x
      have q:({ data:= #[(110:UInt8),(111:UInt8),(116:UInt8),(104:UInt8),(105:UInt8),(110:UInt8),(103:UInt8)] } :ByteArray)=ba NOTH:=Eq.trans rfl rfl
      have eR:=qc1 k (by omega) w S (t++NOTH)
      rw [hb] at eR
      simp only [rsD] at eR
      have fz:(fmtI ns).length=ns.length:=List.length_map ..
      have eT:=qet (k+15) (by omega) false false (fmtI ns++fwT x) (by rw [List.length_append]; omega)
      subst eL
      have sz:=qbk t
      have s7:ByteArray.size (ba NOTH)=7:=qbk NOTH
      simp (disch:=omega) only [wk,bit,nI,q,sz,s7,qbh,eR,eF,eT,bl,fz,List.length_append]
theorem law_Scripts (k:Nat)(hk:2000000≤k)(az:Bool)(a:List Int):go (k+17) laws_FnScripts [(.arr false (az) (.ints IntKind.u8 (a)))]=some [.bool true]:=by
  by_cases h:1048576<(a.length:Int)
  · rw [qli]; simp (disch:=omega) only [wk,bit,nI,qes]
  have h:(a.length:Int)≤1048576:=by omega
  obtain ⟨w,A,eD,G,hA,oA⟩:=qe8 (k+4) (by omega) az a h
  have S:=G.F.sml
  have all:A.all aOk=true:=by rw [List.all_eq_true]; exact fun x hx=>oA x hx
  have sl:=qzz A all
  have eT:=qfs (k+11) (by omega) false A (by omega)
  rw [all,decide_eq_true (by omega:A.length≤30)] at eT
  simp only [Bool.and_true,qie] at eT
  have ok:=G.ok (by omega)
  have eI:=qc1 k (by omega) w S (scrL A)
  rw [qxx ok all hA] at eI
  simp only [rsD] at eI
  have eR:=qfr (k+5) (by omega) w false A S (by omega)
  have bad:= @qxw w A all hA
  have ll:=qx2 w A
  have SX:=qx4 S A
  have nn:=qx3 S A
  unfold qxv at eI
  generalize runW w A=X at*
  have e:=qs6 k hk [] w X.1 S SX (scrL A) (by omega) bad X.2 ll nn (k+16) 0 [] (by simp) (by omega) (by omega)
  rw [show ((0:Nat):Int)=0 from rfl] at e
  rw [qli]
  simp (disch:=omega) only [wk,bit,nI,qes,eD,eT,eI,eR]
  exact e
end Go.Proofs.YtjfjniebmdafeaaGreatDoor
end
