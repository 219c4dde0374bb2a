/- What the program's functions compute, and plain facts of it (part 5). No condition beyond those that each theorem states. -/
import Derived.Test.YtjfjniebmdafeaaGreatDoorQR4
set_option linter.unusedVariables false
set_option linter.unusedSimpArgs false
section
namespace Go.Proofs.YtjfjniebmdafeaaGreatDoor
open Go.Ev
set_option maxRecDepth 20000
abbrev Acts:=List (Int×Int×Int×Int)
def runN (acts:Acts):Nat→Wd→Wd×List Int
  | 0,w=>(w,[])
  | n+1,w=>((doW (runN acts n w).1 (acts.getD n zz4).1 (acts.getD n zz4).2.1 (acts.getD n zz4).2.2.1 (acts.getD n zz4).2.2.2).1,(runN acts n w).2++[(doW (runN acts n w).1 (acts.getD n zz4).1 (acts.getD n zz4).2.1 (acts.getD n zz4).2.2.1 (acts.getD n zz4).2.2.2).2])
theorem qyv (acts:Acts): ∀ (n:Nat)(w:Wd),(runN acts n w).2.length=n
  | 0,w=>rfl
  | n+1,w=>by simp [runN,qyv acts n w]
theorem qi7 {w:Wd}(S:Sml w)(p m h:Int):Sml (drp w p m h):=by
  unfold drp
  cases qi6 w p m h
  · exact S
  · exact ⟨S.h1,by show ((List.set _ _ _).length:Int)≤_; rw [List.length_set]; exact S.h2,by show ((List.set _ _ _).length:Int)≤_; rw [List.length_set]; exact S.h3,S.h4⟩
theorem qa5 {w:Wd}(h:Sml w)(n:Int):Sml (adv w n):=by
  unfold adv
  cases g:qa3 w n
  · exact h
  · simp only [qa3,Bool.and_eq_true] at g
    exact ((qa2 n.toNat w 0 (wdF g.1).adv).F).sml
theorem qi3 {w:Wd}(S:Sml w)(a b c d:Int):Sml (doW w a b c d).1:=by
  unfold doW
  cases wdOk w&&qat a b c d
  · exact S
  · simp only [qik]
    unfold actW
    by_cases h1:a=1
    · rw [if_pos h1]; exact qa5 S b
    rw [if_neg h1]
    by_cases h2:a=2
    · rw [if_pos h2]; exact ⟨S.h1,S.h2,S.h3,S.h4⟩
    rw [if_neg h2]
    by_cases h3:a=3
    · rw [if_pos h3]; exact ⟨S.h1,S.h2,S.h3,S.h4⟩
    rw [if_neg h3]
    by_cases h4:a=4
    · rw [if_pos h4]; exact ⟨S.h1,S.h2,S.h3,S.h4⟩
    rw [if_neg h4]
    by_cases h5:a=5
    · rw [if_pos h5]; exact ⟨S.h1,S.h2,S.h3,S.h4⟩
    rw [if_neg h5]
    by_cases h6:a=6
    · rw [if_pos h6]; exact ⟨S.h1,S.h2,S.h3,S.h4⟩
    rw [if_neg h6]
    exact qi7 S b c d
theorem qyx (acts:Acts){w:Wd}(S:Sml w): ∀ n,Sml (runN acts n w).1
  | 0=>S
  | n+1=>qi3 (qyx acts S n) _ _ _ _
set_option maxHeartbeats 2000000 in
theorem quc (k:Nat)(hk:2000000≤k)(fu:List (Nat×Nat))(acts:Acts)(hl:acts.length≤30)(zz:Bool)(w0:Wd)(S:Sml w0)(z2:Bool)(l3:List Cell)(z4:Bool)(l5:List Int)(z6:Bool)(l7:List Int)(z8:Bool)(l9:List Int)(x10 x11 x12 x13 x14 x15 x16 x17 x18 x19 x20 x21 x22 x23 x24 x25 x26:Int): ∀ (N i:Nat)(w:Wd)(L:List Int),w=(runN acts i w0).1→L=(runN acts i w0).2→i≤acts.length→acts.length - i<N→
    lp (k+14) impl_RunActs [] fu 6 (N) (qzg (acts.length:Int) (i:Int) z2 l3 z4 l5 z6 l7 z8 l9 x10 x11 x12 x13 x14 x15 x16 x17 x18 x19 x20 x21 x22 x23 x24 x25 x26 false w.s.1 false w.s.2.1 false w.s.2.2 false w.b w.r w.p.bi w.p.bs w.p.bo w.p.rain w.p.loss w.p.dec w.p.high w.p.low w.p.every w.k w.ld.mi w.ld.mo w.ld.ti w.ld.ou w.f w.g false L zz acts)=some [wdO (runN acts acts.length w0).1,.arr true false (.ints .i64 (runN acts acts.length w0).2)]
  | 0,i,w,L,ew,eL,hi,hN=>by omega
  | N+1,i,w,L,ew,eL,hi,hN=>by
    rw [qrj]
    by_cases g:i<acts.length
    · have T:=qyx acts S i
      rw [← ew] at T
      have e1:(runN acts (i+1) w0).1=(doW w (acts.getD i zz4).1 (acts.getD i zz4).2.1 (acts.getD i zz4).2.2.1 (acts.getD i zz4).2.2.2).1:=by rw [runN,← ew]
      have e2:(runN acts (i+1) w0).2=L++[(doW w (acts.getD i zz4).1 (acts.getD i zz4).2.1 (acts.getD i zz4).2.2.1 (acts.getD i zz4).2.2.2).2]:=by rw [runN,← ew,← eL]
      have IH:=quc k hk fu acts hl zz w0 S z2 l3 z4 l5 z6 l7 z8 l9 x10 x11 x12 x13 x14 x15 x16 x17 x18 x19 x20 x21 x22 x23 x24 x25 x26 N (i+1) _ _ e1.symm e2.symm (by omega) (by omega)
      have eD:=qb2 k (by omega) w (acts.getD i zz4).1 (acts.getD i zz4).2.1 (acts.getD i zz4).2.2.1 (acts.getD i zz4).2.2.2 T
      have ll:=qyv acts (i+1) w0
      rw [e2] at ll
      generalize doW w (acts.getD i zz4).1 (acts.getD i zz4).2.1 (acts.getD i zz4).2.2.1 (acts.getD i zz4).2.2.2=X at*
      simp (disch:=omega) only [wk,bit,nI,eD,ll,IH]
    · have:i=acts.length:=by omega
      subst this
      subst ew; subst eL
      simp (disch:=omega) only [wk,bit,nI]
set_option maxHeartbeats 2000000 in
theorem qve (k:Nat)(hk:2000000≤k)(fu:List (Nat×Nat))(acts:Acts)(hl:acts.length≤30)(zz:Bool)(w0:Wd)(S:Sml w0)(z3:Bool)(l4:List Cell)(z5:Bool)(l6:List Int)(z7:Bool)(l8:List Int)(z9:Bool)(l10:List Int)(x11 x12 x13 x14 x15 x16 x17 x18 x19 x20 x21 x22 x23 x24 x25 x26 x27:Int): ∀ (N i:Nat)(w:Wd)(L:List Int),w=(runN acts i w0).1→L=(runN acts i w0).2→i≤acts.length→acts.length - i<N→
    lp (k+10) spec_RunActs [] fu 6 (N) (q0m (i:Int) zz acts z3 l4 z5 l6 z7 l8 z9 l10 x11 x12 x13 x14 x15 x16 x17 x18 x19 x20 x21 x22 x23 x24 x25 x26 x27 false w.s.1 false w.s.2.1 false w.s.2.2 false w.b w.r w.p.bi w.p.bs w.p.bo w.p.rain w.p.loss w.p.dec w.p.high w.p.low w.p.every w.k w.ld.mi w.ld.mo w.ld.ti w.ld.ou w.f w.g false L)=some [wdO (runN acts acts.length w0).1,.arr true false (.ints .i64 (runN acts acts.length w0).2)]
  | 0,i,w,L,ew,eL,hi,hN=>by omega
  | N+1,i,w,L,ew,eL,hi,hN=>by
    rw [qsp]
    by_cases g:i<acts.length
    · have T:=qyx acts S i
      rw [← ew] at T
      have e1:(runN acts (i+1) w0).1=(doW w (acts.getD i zz4).1 (acts.getD i zz4).2.1 (acts.getD i zz4).2.2.1 (acts.getD i zz4).2.2.2).1:=by rw [runN,← ew]
      have e2:(runN acts (i+1) w0).2=L++[(doW w (acts.getD i zz4).1 (acts.getD i zz4).2.1 (acts.getD i zz4).2.2.1 (acts.getD i zz4).2.2.2).2]:=by rw [runN,← ew,← eL]
      have IH:=qve k hk fu acts hl zz w0 S z3 l4 z5 l6 z7 l8 z9 l10 x11 x12 x13 x14 x15 x16 x17 x18 x19 x20 x21 x22 x23 x24 x25 x26 x27 N (i+1) _ _ e1.symm e2.symm (by omega) (by omega)
      have eD:=qfo k (by omega) w (acts.getD i zz4).1 (acts.getD i zz4).2.1 (acts.getD i zz4).2.2.1 (acts.getD i zz4).2.2.2 T
      have ll:=qyv acts (i+1) w0
      rw [e2] at ll
      generalize doW w (acts.getD i zz4).1 (acts.getD i zz4).2.1 (acts.getD i zz4).2.2.1 (acts.getD i zz4).2.2.2=X at*
      simp (disch:=omega) only [wk,bit,nI,eD,ll,IH]
    · have:i=acts.length:=by omega
      subst this
      subst ew; subst eL
      simp (disch:=omega) only [wk,bit,nI]
def qyy (w:Wd)(acts:Acts):Bool:=wdOk w&&decide ((acts.length:Int)≤30)
def runW (w:Wd)(acts:Acts):Wd×List Int:=cond (qyy w acts) (runN acts acts.length w) (w,[])
theorem qco (k:Nat)(hk:2000000≤k)(w:Wd)(z:Bool)(acts:Acts)(S:Sml w)(hl:(acts.length:Int)≤1048576):go (k+15) impl_RunActs [wdR w,.arr false z (.r4 acts)]=some [wdO (runW w acts).1,.arr true (!(qyy w acts)) (.ints .i64 (runW w acts).2)]:=by
  rw [qj6]
  have eC:=qdd (k+10) (by omega) w S
  have eO:=qc2 (k+5) (by omega) w S
  unfold runW qyy
  cases g:wdOk w
  · rw [g] at eO
    simp (disch:=omega) only [wk,bit,nI,eC,eO]
  rw [g] at eO
  by_cases g2:(acts.length:Int)≤30
  case neg=>simp (disch:=omega) only [wk,bit,nI,eC,eO]
  have e:=quc k hk [] acts (by omega) z w S true [] true [] true [] true [] 0 0 0 0 0 0 0 0 0 0 0 0 0 0 0 0 0 (k+14) 0 w [] rfl rfl (by omega) (by omega)
  rw [show ((0:Nat):Int)=0 from rfl] at e
  simp (disch:=omega) only [wk,bit,nI,eC,eO]
  exact e
theorem qf8 (k:Nat)(hk:2000000≤k)(w:Wd)(z:Bool)(acts:Acts)(S:Sml w)(hl:(acts.length:Int)≤1048576):go (k+11) spec_RunActs [wdR w,.arr false z (.r4 acts)]=some [wdO (runW w acts).1,.arr true false (.ints .i64 (runW w acts).2)]:=by
  rw [qnh]
  have eC:=qha (k+7) (by omega) w S
  have eO:=qgi (k+2) (by omega) w S
  unfold runW qyy
  cases g:wdOk w
  · rw [g] at eO
    simp (disch:=omega) only [wk,bit,nI,eC,eO]
  rw [g] at eO
  by_cases g2:(acts.length:Int)≤30
  case neg=>simp (disch:=omega) only [wk,bit,nI,eC,eO]
  have e:=qve k hk [] acts (by omega) z w S true [] true [] true [] true [] 0 0 0 0 0 0 0 0 0 0 0 0 0 0 0 0 0 (k+10) 0 w [] rfl rfl (by omega) (by omega)
  rw [show ((0:Nat):Int)=0 from rfl] at e
  simp (disch:=omega) only [wk,bit,nI,eC,eO]
  exact e
theorem qyz (w:Wd)(acts:Acts):(runW w acts).2.length≤30:=by
  unfold runW
  cases g:qyy w acts
  · simp
  · simp only [qyy,Bool.and_eq_true,decide_eq_true_eq] at g
    rw [qik,qyv]; omega
theorem qy1 {w:Wd}(S:Sml w)(acts:Acts):Sml (runW w acts).1:=by
  unfold runW
  cases qyy w acts
  · exact S
  · exact qyx acts S _
end Go.Proofs.YtjfjniebmdafeaaGreatDoor
end
section
namespace Go.Proofs.YtjfjniebmdafeaaGreatDoor
open Go.Ev
set_option maxRecDepth 20000
abbrev fmtI (l:List Int):List ByteArray:=l.map fun n=>ba (Lib.itoa n)
def qbj (s:List UInt8):Bool:=q1w s&&decide ((wordsL s).length=0)
noncomputable def scrP:List (List UInt8)→Acts→Option Acts
  | [],acc=>some acc
  | s::ls,acc=>cond (qbj s) (scrP ls acc) ((prsA s).bind fun x=>scrP ls (acc++[x]))
def qys (w:Wd)(acts:Acts):List ByteArray:=fmtI (runW w acts).2++fwT (runW w acts).1
def rsA (w:Wd)(acts:Acts):Option (List ByteArray):=cond (decide (acts.length≤30)) (some (qys w acts)) none
noncomputable def rsL (w:Wd)(ls:List (List UInt8))(acc:Acts):Option (List ByteArray):=(scrP ls acc).bind (rsA w)
def rsD (z:Bool):Option (List ByteArray)→List D
  | some l=>[.arr true false (.strs l),.bool true]
  | none=>[.arr true z (.strs []),.bool false]
theorem qyo {w:Wd}{s:List UInt8}{ls:List (List UInt8)}{acc:Acts}(h:qbj s=true):rsL w (s::ls) acc=rsL w ls acc:=by
  unfold rsL; rw [scrP,h]; rfl
theorem qyq {w:Wd}{s:List UInt8}{ls:List (List UInt8)}{acc:Acts}(h:qbj s=false)(hp:prsA s=none):rsL w (s::ls) acc=none:=by
  unfold rsL; rw [scrP,h,hp]; rfl
theorem qyr {w:Wd}{s:List UInt8}{ls:List (List UInt8)}{acc:Acts}{x:A4}(h:qbj s=false)(hp:prsA s=some x):rsL w (s::ls) acc=rsL w ls (acc++[x]):=by
  unfold rsL; rw [scrP,h,hp]; rfl
theorem qpc {l:List Int}{i:Nat}(h:i<l.length):fmtI (l.take (i+1))=fmtI (l.take i)++[ba (Lib.itoa (l.getD i 0))]:=by
  unfold fmtI
  rw [List.take_succ_eq_append_getElem h,List.map_append]
  simp [h]
theorem qpf (w:Wd):(fwT w).length≤20:=by
  unfold fwT; cases wdOk w<;>simp [fwL]
theorem qi2 {w:Wd}(S:Sml w)(a b c d:Int):inI64 (doW w a b c d).2=true:=by
  unfold doW
  cases g:wdOk w&&qat a b c d
  · exact qp1 (show _≤(-1:Int)∧(-1:Int)≤_ by omega)
  · simp only [Bool.and_eq_true] at g
    rw [qik]
    have F:=qa4 g.1 b
    have s1:=qqh _ F.mmem
    have ml:=F.ml; have ll:=F.len; have rr:=F.rr
    have h1:=S.h1
    unfold actW
    by_cases h1:a=1
    · rw [if_pos h1]; exact qp1 (show _≤isum _∧isum _≤_ by omega)
    rw [if_neg h1]
    by_cases h2:a=2
    · rw [if_pos h2]; exact qp1 (show _≤(1:Int)∧(1:Int)≤_ by omega)
    rw [if_neg h2]
    by_cases h3:a=3
    · rw [if_pos h3]; exact qp1 (show _≤(1:Int)∧(1:Int)≤_ by omega)
    rw [if_neg h3]
    by_cases h4:a=4
    · rw [if_pos h4]; exact qp1 (show _≤(1:Int)∧(1:Int)≤_ by omega)
    rw [if_neg h4]
    by_cases h5:a=5
    · rw [if_pos h5]; exact qp1 (show _≤(1:Int)∧(1:Int)≤_ by omega)
    rw [if_neg h5]
    by_cases h6:a=6
    · rw [if_pos h6]; exact qp1 (show _≤(w.s.1.length:Int)∧(w.s.1.length:Int)≤_ by omega)
    rw [if_neg h6]
    show inI64 (cond (qi6 w b c d) 1 0)=true
    cases qi6 w b c d
    · exact qp1 (show _≤(0:Int)∧(0:Int)≤_ by omega)
    · exact qp1 (show _≤(1:Int)∧(1:Int)≤_ by omega)
theorem qyw (acts:Acts){w:Wd}(S:Sml w): ∀ n,∀ x∈(runN acts n w).2,inI64 x=true
  | 0=>fun x hx=>by cases hx
  | n+1=>fun x hx=>by
    rw [runN,List.mem_append] at hx
    rcases hx with h | h
    · exact qyw acts S n x h
    · rw [List.mem_singleton] at h
      rw [h]; exact qi2 (qyx acts S n) _ _ _ _
theorem qy0 {w:Wd}(S:Sml w)(acts:Acts)(i:Nat)(h:i<(runW w acts).2.length):inI64 ((runW w acts).2.getD i 0)=true:=by
  have: ∀ x∈(runW w acts).2,inI64 x=true:=by
    unfold runW
    cases qyy w acts
    · exact fun x hx=>by cases hx
    · exact qyw acts S _
  refine this _ ?_
  rw [List.getD_eq_getElem?_getD,List.getElem?_eq_getElem h]
  exact List.getElem_mem h
set_option maxHeartbeats 2000000 in
theorem qt4 (k:Nat)(hk:2000000≤k)(fu:List (Nat×Nat))(x:Wd)(S:Sml x)(zz:Bool)(ns:List Int)(hn:ns.length≤30)(hi64: ∀ i,i<ns.length→inI64 (ns.getD i 0)=true): ∀ (N i:Nat)(L:List ByteArray),L=fmtI (ns.take i)→i≤ns.length→ns.length - i<N→
    lp (k+15) impl_RunScript [] fu 19 (N) (qzh (ns.length:Int) (i:Int) false x.s.1 false x.s.2.1 false x.s.2.2 false x.b x.r x.p.bi x.p.bs x.p.bo x.p.rain x.p.loss x.p.dec x.p.high x.p.low x.p.every x.k x.ld.mi x.ld.mo x.ld.ti x.ld.ou x.f x.g false L zz ns)=some [.arr true false (.strs (fmtI ns++fwT x)),.bool true]
  | 0,i,L,eL,hi,hN=>by omega
  | N+1,i,L,eL,hi,hN=>by
    rw [qrk]
    have bl:bigLen=1099511627776:=rfl
    have Ll:L.length=i:=by rw [eL]; simp; omega
    by_cases g:i<ns.length
    · have eF:=qb6 (k+13) (by omega) _ (hi64 i g)
      have IH:=qt4 k hk fu x S zz ns hn hi64 N (i+1) (L++[ba (Lib.itoa (ns.getD i 0))]) (by rw [eL,qpc g]) (by omega) (by omega)
      simp (disch:=omega) only [wk,bit,nI,eF,bl,Ll,List.length_append,List.length_cons,List.length_nil]
      exact IH
    · obtain rfl:i=ns.length:=by omega
      rw [List.take_length] at eL
      have eF:=qb8 (k+5) (by omega) x S
      have fl:=qpf x
      subst eL
      simp (disch:=omega) only [wk,bit,nI,eF,bl,Ll,List.length_append]
theorem qpy (k:Nat)(hk:2000000≤k)(fu:List (Nat×Nat))(w:Wd)(S:Sml w)(ls:List ByteArray)(N:Nat)(acc:Acts)(ha:(acc.length:Int)≤1048576):
    lp (k+15) impl_RunScript [] fu 5 (N+1) (qzi (ls.length:Int) (ls.length:Int) false w.s.1 false w.s.2.1 false w.s.2.2 false w.b w.r w.p.bi w.p.bs w.p.bo w.p.rain w.p.loss w.p.dec w.p.high w.p.low w.p.every w.k w.ld.mi w.ld.mo w.ld.ti w.ld.ou w.f w.g false acc false ls)=some (rsD true (rsA w acc)):=by
  rw [qrl]
  unfold rsA
  by_cases h:(acc.length:Int)≤30
  case neg=>
    rw [dF (by omega:¬ acc.length≤30)]
    simp (disch:=omega) only [wk,bit,nI]
    rfl
  rw [dT (by omega:acc.length≤30)]
  have eR:=qco k (by omega) w false acc S ha
  have ll:=qyz w acc
  have SX:=qy1 S acc
  have nn:=qy0 S acc
  unfold qys
  generalize runW w acc=X at*
  have e:=qt4 k hk fu X.1 SX (!(qyy w acc)) X.2 ll nn (k+15) 0 [] (by simp) (by omega) (by omega)
  rw [show ((0:Nat):Int)=0 from rfl] at e
  simp (disch:=omega) only [wk,bit,nI,eR]
  exact e
set_option maxHeartbeats 2000000 in
theorem qt5 (k:Nat)(hk:2000000≤k)(fu:List (Nat×Nat))(w:Wd)(S:Sml w)(ls:List (List UInt8))(hl:ls.length≤1000000)(hs: ∀ i,(ls.getD i []).length≤1048576): ∀ (N i:Nat)(acc:Acts),i≤ls.length→ls.length - i<N→acc.length≤i→
    lp (k+15) impl_RunScript [] fu 5 (N) (qzi (ls.length:Int) (i:Int) false w.s.1 false w.s.2.1 false w.s.2.2 false w.b w.r w.p.bi w.p.bs w.p.bo w.p.rain w.p.loss w.p.dec w.p.high w.p.low w.p.every w.k w.ld.mi w.ld.mo w.ld.ti w.ld.ou w.f w.g false acc false (baL ls))=some (rsD true (rsL w (ls.drop i) acc))
  | 0,i,acc,hi,hN,ha=>by omega
  | N+1,i,acc,hi,hN,ha=>by
    have bl:bigLen=1099511627776:=rfl
    have ll:(baL ls).length=ls.length:=List.length_map ..
    by_cases g:i<ls.length
    · rw [qrl,qi5 g []]
      have ea:=qa9 ls i
      have hz:=hs i
      generalize ls.getD i []=s at*
      have eS:=qcs (k+11) (by omega) s hz
      have eP:=qcm (k+10) (by omega) s hz
      cases b:qbj s
      case true=>
        rw [qyo b]
        simp only [qbj,Bool.and_eq_true,decide_eq_true_eq] at b
        rw [b.1] at eS
        have b2:=b.2
        have IH:=qt5 k hk fu w S ls hl hs N (i+1) acc (by omega) (by omega) (by omega)
        simp (disch:=omega) only [wk,bit,nI,eS,ll,ea,b2]
        exact IH
      cases hp:prsA s with
      | none=>
        rw [qyq b hp]
        rw [hp] at eP
        have eP:go (k+15) impl_ParseAct [.str (ba s)]=some zD:=eP
        cases o:q1w s
        · rw [o] at eS
          simp (disch:=omega) only [wk,bit,nI,eS,eP,ll,ea]
          rfl
        · rw [o] at eS
          have b2:¬ (wordsL s).length=0:=by rw [qbj,o,Bool.true_and] at b; exact of_decide_eq_false b
          simp (disch:=omega) only [wk,bit,nI,eS,eP,ll,ea]
          rfl
      | some x=>
        rw [qyr b hp]
        rw [hp] at eP
        obtain ⟨a1,a2,a3,a4⟩:=x
        have eP:go (k+15) impl_ParseAct [.str (ba s)]=some (aD a1 a2 a3 a4):=eP
        have IH:=qt5 k hk fu w S ls hl hs N (i+1) (acc++[(a1,a2,a3,a4)]) (by omega) (by omega) (by simp; omega)
        cases o:q1w s
        · rw [o] at eS
          simp (disch:=omega) only [wk,bit,nI,eS,eP,ll,ea,bl,List.length_append,List.length_cons,List.length_nil]
          exact IH
        · rw [o] at eS
          have b2:¬ (wordsL s).length=0:=by rw [qbj,o,Bool.true_and] at b; exact of_decide_eq_false b
          simp (disch:=omega) only [wk,bit,nI,eS,eP,ll,ea,bl,List.length_append,List.length_cons,List.length_nil]
          exact IH
    · obtain rfl:i=ls.length:=by omega
      rw [List.drop_length]
      have E:=qpy k hk fu w S (baL ls) N acc (by omega)
      rw [ll] at E
      exact E
theorem qtl: ∀ (l cur:List UInt8),(linesGo cur l).length≤l.length+1
  | [],cur=>by simp [linesGo]
  | b::l,cur=>by
    rw [linesGo]
    have h1:=qtl l []; have h2:=qtl l (cur++[b])
    cases decide (b=10)
    · rw [qii,List.length_cons]; omega
    · rw [qik,List.length_cons,List.length_cons]; omega
theorem qtm: ∀ (l cur:List UInt8),∀ s∈linesGo cur l,s.length≤cur.length+l.length
  | [],cur=>fun s h=>by
    rw [linesGo,List.mem_singleton] at h
    subst h; simp
  | b::l,cur=>fun s h=>by
    rw [linesGo] at h
    cases g:decide (b=10)
    · rw [g,qii] at h
      have:=qtm l _ s h
      simp only [List.length_append,List.length_cons,List.length_nil] at this ⊢; omega
    · rw [g,qik,List.mem_cons] at h
      rcases h with rfl | h
      · simp only [List.length_cons]; omega
      · have:=qtm l _ s h
        simp only [List.length_nil,List.length_cons] at this ⊢; omega
noncomputable def rsP (w:Wd)(t:List UInt8):Option (List ByteArray):=cond (decide (t.length≤20000)&&wdOk w) (rsL w (linesGo [] t) []) none
theorem qcp (k:Nat)(hk:2000000≤k)(w:Wd)(S:Sml w)(t:List UInt8):go (k+16) impl_RunScript [wdR w,.str (ba t)]=some (rsD true (rsP w t)):=by
  rw [qj7]
  have sz:=qbd t
  unfold rsP
  by_cases h:(t.length:Int)≤20000
  case neg=>
    rw [dF (by omega:¬ t.length≤20000)]
    simp (disch:=omega) only [wk,bit,nI,sz]
    rfl
  rw [dT (by omega:t.length≤20000),Bool.true_and]
  have eO:=qc2 (k+6) (by omega) w S
  cases g:wdOk w
  · rw [g] at eO
    simp (disch:=omega) only [wk,bit,nI,sz,eO]
    rfl
  rw [g] at eO
  have eL:=qhi (k+14) (ba t) (by rw [sz]; omega)
  rw [qbc] at eL
  have h1:=qtl t []
  have e:=qt5 k hk [] w S (linesGo [] t) (by omega) (fun i=>by
    by_cases hi:i<(linesGo [] t).length
    · have:=qtm t [] ((linesGo [] t).getD i []) (by rw [List.getD_eq_getElem?_getD,List.getElem?_eq_getElem hi]; exact List.getElem_mem hi)
      simp only [List.length_nil] at this; omega
    · rw [List.getD_eq_getElem?_getD,List.getElem?_eq_none (by omega)]; simp) (k+15) 0 [] (by omega) (by omega) (by simp)
  rw [List.drop_zero,show ((0:Nat):Int)=0 from rfl] at e
  have wl:(linesL t).length=(linesGo [] t).length:=List.length_map ..
  have ww:linesL t=baL (linesGo [] t):=rfl
  simp (disch:=omega) only [wk,bit,nI,sz,eO,eL,wl]
  rw [ww]
  exact e
end Go.Proofs.YtjfjniebmdafeaaGreatDoor
end
section
namespace Go.Proofs.YtjfjniebmdafeaaGreatDoor
open Go.Ev
set_option maxRecDepth 20000
theorem qyp {w:Wd}{acc:Acts} :rsL w [] acc=rsA w acc:=by unfold rsL; rfl
set_option maxHeartbeats 2000000 in
theorem qu6 (k:Nat)(hk:2000000≤k)(fu:List (Nat×Nat))(x:Wd)(S:Sml x)(ns:List Int)(hn:ns.length≤30)(hi64: ∀ i,i<ns.length→inI64 (ns.getD i 0)=true): ∀ (N i:Nat)(L:List ByteArray),L=fmtI (ns.take i)→i≤ns.length→ns.length - i<N→
    lp (k+11) spec_RunScript [] fu 23 (N) (q0n (i:Int) false x.s.1 false x.s.2.1 false x.s.2.2 false x.b x.r x.p.bi x.p.bs x.p.bo x.p.rain x.p.loss x.p.dec x.p.high x.p.low x.p.every x.k x.ld.mi x.ld.mo x.ld.ti x.ld.ou x.f x.g false ns false L)=some [.arr true false (.strs (fmtI ns++fwT x)),.bool true]
  | 0,i,L,eL,hi,hN=>by omega
  | N+1,i,L,eL,hi,hN=>by
    rw [qsq]
    have bl:bigLen=1099511627776:=rfl
    have Ll:L.length=i:=by rw [eL]; simp; omega
    by_cases g:i<ns.length
    · have eF:=qft (k+9) (by omega) _ (hi64 i g)
      have IH:=qu6 k hk fu x S ns hn hi64 N (i+1) (L++[ba (Lib.itoa (ns.getD i 0))]) (by rw [eL,qpc g]) (by omega) (by omega)
      simp (disch:=omega) only [wk,bit,nI,eF,bl,Ll,List.length_append,List.length_cons,List.length_nil]
      exact IH
    · obtain rfl:i=ns.length:=by omega
      rw [List.take_length] at eL
      have eF:=qfv (k+2) (by omega) x S
      have fl:=qpf x
      subst eL
      simp (disch:=omega) only [wk,bit,nI,eF,bl,Ll,List.length_append]
theorem qy6 (k:Nat)(hk:2000000≤k)(fu:List (Nat×Nat))(w:Wd)(S:Sml w)(t:List UInt8)(ht:t.length≤20000)(N:Nat)(acc:Acts)(ha:(acc.length:Int)≤1048576):
    lp (k+11) spec_RunScript [] fu 7 (N+1) (q0o (ba t) ((t.length+1:Nat):Int) ((t.length+1:Nat):Int) false w.s.1 false w.s.2.1 false w.s.2.2 false w.b w.r w.p.bi w.p.bs w.p.bo w.p.rain w.p.loss w.p.dec w.p.high w.p.low w.p.every w.k w.ld.mi w.ld.mo w.ld.ti w.ld.ou w.f w.g false [] false acc)=some (rsD false (rsA w acc)):=by
  rw [qsr]
  have sz:=qbd t
  unfold rsA
  by_cases h:(acc.length:Int)≤30
  case neg=>
    rw [dF (by omega:¬ acc.length≤30)]
    simp (disch:=omega) only [wk,bit,nI,sz]
    rfl
  rw [dT (by omega:acc.length≤30)]
  have eR:=qf8 k (by omega) w false acc S ha
  have ll:=qyz w acc
  have SX:=qy1 S acc
  have nn:=qy0 S acc
  unfold qys
  generalize runW w acc=X at*
  have e:=qu6 k hk fu X.1 SX X.2 ll nn (k+11) 0 [] (by simp) (by omega) (by omega)
  rw [show ((0:Nat):Int)=0 from rfl] at e
  simp (disch:=omega) only [wk,bit,nI,sz,eR]
  exact e
set_option maxHeartbeats 4000000 in
theorem qu7 (k:Nat)(hk:2000000≤k)(fu:List (Nat×Nat))(w:Wd)(S:Sml w)(t:List UInt8)(ht:t.length≤20000): ∀ (N i b:Nat)(acc:Acts),i≤t.length→t.length+1 - i<N→b≤i→acc.length≤i→
    lp (k+11) spec_RunScript [] fu 7 (N) (q0o (ba t) (b:Int) (i:Int) false w.s.1 false w.s.2.1 false w.s.2.2 false w.b w.r w.p.bi w.p.bs w.p.bo w.p.rain w.p.loss w.p.dec w.p.high w.p.low w.p.every w.k w.ld.mi w.ld.mo w.ld.ti w.ld.ou w.f w.g false [] false acc)=some (rsD false (rsL w (linesGo ((t.drop b).take (i - b)) (t.drop i)) acc))
  | 0,i,b,acc,hi,hN,hb,ha=>by omega
  | N+1,i,b,acc,hi,hN,hb,ha=>by
    have bl:bigLen=1099511627776:=rfl
    have sz:=qbd t
    have xe:=qor t b i
    rw [qsr]
    by_cases g:i<t.length
    · have sa:=q2h t i
      rw [qi5 g 0]
      obtain ⟨c,hc⟩: ∃ c,t.getD i 0=c:=⟨_,rfl⟩
      rw [hc] at sa ⊢
      rw [linesGo]
      by_cases h10:c=10
      case neg=>
        have n10:¬ (c.toNat:Int)=10:=fun e=>by
          have h:c.toNat=10:=by omega
          exact h10 (UInt8.toNat_inj.1 h)
        have tk:(t.drop b).take (i+1 - b)=(t.drop b).take (i - b)++[c]:=by
          have hl:i - b<(t.drop b).length:=by rw [List.length_drop]; omega
          rw [show i+1 - b=i - b+1 by omega,List.take_succ_eq_append_getElem hl]
          congr 2
          rw [List.getElem_drop,← hc]
          simp [List.getD_eq_getElem?_getD,show b+(i - b)=i by omega,g]
        have IH:=qu7 k hk fu w S t ht N (i+1) b acc (by omega) (by omega) (by omega) (by omega)
        rw [tk] at IH
        rw [dF h10,qii]
        simp (disch:=omega) only [wk,bit,nI,sz,sa]
        exact IH
      have c10:(c.toNat:Int)=10:=by rw [h10]; rfl
      rw [dT h10,qik]
      have hz:((t.drop b).take (i - b)).length≤1048576:=by rw [List.length_take,List.length_drop]; omega
      generalize (t.drop b).take (i - b)=s at*
      have eS:=qgc (k+10) (by omega) s hz
      have eP:=qf6 (k+6) (by omega) s hz
      cases bb:qbj s
      case true=>
        rw [qyo bb]
        simp only [qbj,Bool.and_eq_true,decide_eq_true_eq] at bb
        rw [bb.1] at eS
        have b2:=bb.2
        have IH:=qu7 k hk fu w S t ht N (i+1) (i+1) acc (by omega) (by omega) (by omega) (by omega)
        rw [Nat.sub_self,List.take_zero] at IH
        simp (disch:=omega) only [wk,bit,nI,sz,sa,c10,xe,eS,b2]
        exact IH
      cases hp:prsA s with
      | none=>
        rw [qyq bb hp]
        rw [hp] at eP
        have eP:go (k+11) spec_ParseAct [.str (ba s)]=some zD:=eP
        cases o:q1w s
        · rw [o] at eS
          simp (disch:=omega) only [wk,bit,nI,sz,sa,c10,xe,eS,eP]
          rfl
        · rw [o] at eS
          have b2:¬ (wordsL s).length=0:=by rw [qbj,o,Bool.true_and] at bb; exact of_decide_eq_false bb
          simp (disch:=omega) only [wk,bit,nI,sz,sa,c10,xe,eS,eP]
          rfl
      | some x=>
        rw [qyr bb hp]
        rw [hp] at eP
        obtain ⟨a1,a2,a3,a4⟩:=x
        have eP:go (k+11) spec_ParseAct [.str (ba s)]=some (aD a1 a2 a3 a4):=eP
        have IH:=qu7 k hk fu w S t ht N (i+1) (i+1) (acc++[(a1,a2,a3,a4)]) (by omega) (by omega) (by omega) (by simp; omega)
        rw [Nat.sub_self,List.take_zero] at IH
        cases o:q1w s
        · rw [o] at eS
          simp (disch:=omega) only [wk,bit,nI,sz,sa,c10,xe,eS,eP,bl,List.length_append,List.length_cons,List.length_nil]
          exact IH
        · rw [o] at eS
          have b2:¬ (wordsL s).length=0:=by rw [qbj,o,Bool.true_and] at bb; exact of_decide_eq_false bb
          simp (disch:=omega) only [wk,bit,nI,sz,sa,c10,xe,eS,eP,bl,List.length_append,List.length_cons,List.length_nil]
          exact IH
    · obtain rfl:i=t.length:=by omega
      rw [List.drop_length,linesGo]
      have hz:((t.drop b).take (t.length - b)).length≤1048576:=by rw [List.length_take,List.length_drop]; omega
      generalize (t.drop b).take (t.length - b)=s at*
      have eS:=qgc (k+10) (by omega) s hz
      have eP:=qf6 (k+6) (by omega) s hz
      cases bb:qbj s
      case true=>
        rw [qyo bb]
        simp only [qbj,Bool.and_eq_true,decide_eq_true_eq] at bb
        rw [bb.1] at eS
        have b2:=bb.2
        have IH:=qy6 k hk fu w S t ht (N - 1) acc (by omega)
        rw [show N - 1+1=N by omega,← qyp] at IH
        simp (disch:=omega) only [wk,bit,nI,sz,xe,eS,b2]
        exact IH
      cases hp:prsA s with
      | none=>
        rw [qyq bb hp]
        rw [hp] at eP
        have eP:go (k+11) spec_ParseAct [.str (ba s)]=some zD:=eP
        cases o:q1w s
        · rw [o] at eS
          simp (disch:=omega) only [wk,bit,nI,sz,xe,eS,eP]
          rfl
        · rw [o] at eS
          have b2:¬ (wordsL s).length=0:=by rw [qbj,o,Bool.true_and] at bb; exact of_decide_eq_false bb
          simp (disch:=omega) only [wk,bit,nI,sz,xe,eS,eP]
          rfl
      | some x=>
        rw [qyr bb hp]
        rw [hp] at eP
        obtain ⟨a1,a2,a3,a4⟩:=x
        have eP:go (k+11) spec_ParseAct [.str (ba s)]=some (aD a1 a2 a3 a4):=eP
        have IH:=qy6 k hk fu w S t ht (N - 1) (acc++[(a1,a2,a3,a4)]) (by simp; omega)
        rw [show N - 1+1=N by omega,← qyp] at IH
        cases o:q1w s
        · rw [o] at eS
          simp (disch:=omega) only [wk,bit,nI,sz,xe,eS,eP,bl,List.length_append,List.length_cons,List.length_nil]
          exact IH
        · rw [o] at eS
          have b2:¬ (wordsL s).length=0:=by rw [qbj,o,Bool.true_and] at bb; exact of_decide_eq_false bb
          simp (disch:=omega) only [wk,bit,nI,sz,xe,eS,eP,bl,List.length_append,List.length_cons,List.length_nil]
          exact IH
theorem qf9 (k:Nat)(hk:2000000≤k)(w:Wd)(S:Sml w)(t:List UInt8):go (k+12) spec_RunScript [wdR w,.str (ba t)]=some (rsD false (rsP w t)):=by
  rw [qni]
  have sz:=qbd t
  unfold rsP
  by_cases h:(t.length:Int)≤20000
  case neg=>
    rw [dF (by omega:¬ t.length≤20000)]
    simp (disch:=omega) only [wk,bit,nI,sz]
    rfl
  rw [dT (by omega:t.length≤20000),Bool.true_and]
  have eO:=qgi (k+3) (by omega) w S
  cases g:wdOk w
  · rw [g] at eO
    simp (disch:=omega) only [wk,bit,nI,sz,eO]
    rfl
  rw [g] at eO
  have e:=qu7 k hk [] w S t (by omega) (k+11) 0 0 [] (by omega) (by omega) (by omega) (by simp)
  rw [List.drop_zero,Nat.sub_self,List.take_zero,show ((0:Nat):Int)=0 from rfl] at e
  simp (disch:=omega) only [wk,bit,nI,sz,eO]
  exact e
end Go.Proofs.YtjfjniebmdafeaaGreatDoor
end
section
namespace Go.Proofs.YtjfjniebmdafeaaGreatDoor
open Go.Ev
set_option maxRecDepth 20000
def mtx (n:Nat):ByteArray:=ba (109::decD n)
theorem m_mt (k:Nat)(hk:2000000≤k)(fu:List (Nat×Nat)): ∀ (M N m:Nat)(s:List UInt8),M<N→m<10 ^ M→(m:Int)≤9223372036854775807→s.length+M≤100→
    lp k laws_markText [] fu 4 (N) (qz5 (m:Int) (ba s))=some [.str (ba (109::(decD m++s)))]
  | M,0,m,s,hN,hm,hb,hs=>by omega
  | 0,N+1,m,s,hN,hm,hb,hs=>by
    rw [qr8]
    have m0:m=0:=by simpa using hm
    subst m0
    have sz:=qbd s
    have s1:ByteArray.size { data:= #[(109:UInt8)] } =1:=Eq.trans rfl rfl
    have ap:({ data:= #[(109:UInt8)] } :ByteArray)++ba s=ba (109::s):=qba [109] s
    rw [decD,dif_pos rfl,List.nil_append]
    simp (disch:=omega) only [wk,bit,nI,sz,s1,ap]
  | M+1,N+1,m,s,hN,hm,hb,hs=>by
    rw [qr8]
    have sz:=qbd s
    have s1:ByteArray.size { data:= #[(109:UInt8)] } =1:=Eq.trans rfl rfl
    have ap:({ data:= #[(109:UInt8)] } :ByteArray)++ba s=ba (109::s):=qba [109] s
    by_cases g:m=0
    · subst g
      rw [decD,dif_pos rfl,List.nil_append]
      simp (disch:=omega) only [wk,bit,nI,sz,s1,ap]
    have m10:m / 10<10 ^ M:=by rw [Nat.pow_succ] at hm; omega
    have st:=q2i (48+m % 10)
    have sb:ByteArray.size (ba [UInt8.ofNat (48+m % 10)])=1:=Eq.trans rfl rfl
    have ap2:ba [UInt8.ofNat (48+m % 10)]++ba s=ba (UInt8.ofNat (48+m % 10)::s):=qba _ _
    have ed:decD m++s=decD (m / 10)++UInt8.ofNat (48+m % 10)::s:=by
      rw [decD,dif_neg g,List.append_assoc]; rfl
    rw [ed]
    have IH:=m_mt k hk fu M N (m / 10) (UInt8.ofNat (48+m % 10)::s) (by omega) m10 (by omega) (by simp only [List.length_cons]; omega)
    have t1:Int.tmod (m:Int) 10=((m % 10:Nat):Int):=by rw [Int.tmod_eq_emod_of_nonneg (by omega)]; omega
    have t2:Int.tdiv (m:Int) 10=((m / 10:Nat):Int):=by rw [Int.tdiv_eq_ediv_of_nonneg (by omega)]; omega
    have wb:IntKind.wrap IntKind.u8 ((48:Int)+((m % 10:Nat):Int))=((48+m % 10:Nat):Int):=by rw [q4b (by omega) (by omega)]; omega
    simp (disch:=omega) only [wk,bit,nI,t1,t2,wb,st,sb,sz,ap2,IH]
theorem qew (k:Nat)(hk:2000000≤k)(n:Nat)(h0:0<n)(hn:(n:Int)≤8796093022208):go (k+1) laws_markText [.int .i64 (n:Int)]=some [.str (mtx n)]:=by
  rw [ql5]
  have e:=m_mt k hk [] 19 (k+0) n [] (by omega) (by omega) (by omega) (by simp)
  rw [List.append_nil] at e
  have y0:({ data:= #[] } :ByteArray)=ba []:=Eq.trans rfl rfl
  simp (disch:=omega) only [wk,bit,nI,y0]
  exact e
def qvt (b:Nat):Nat→List ByteArray
  | 0=>[]
  | n+1=>mtx b::qvt (b+1) n
theorem qvv: ∀ (n:Nat)(b:Nat),(qvt b n).length=n
  | 0,b=>rfl
  | n+1,b=>by simp [qvt,qvv n]
theorem qvu: ∀ (n i:Nat)(b:Nat),i<n→(qvt b n).getD i ByteArray.empty=mtx (b+i)
  | 0,i,b,h=>by omega
  | n+1,0,b,h=>by simp [qvt]
  | n+1,i+1,b,h=>by
    have:=qvu n i (b+1) (by omega)
    simp only [qvt,List.getD_cons_succ,this]; congr 1; omega
theorem q08 (l:List ByteArray)(i:Nat)(x:ByteArray)(r:List ByteArray)(h:i<l.length):(l.set i x).take (i+1)++r=l.take i++x::r:=by
  rw [List.take_succ_eq_append_getElem (by simpa using h),List.take_set_of_le (Nat.le_refl i)]
  simp
theorem quy (k:Nat)(hk:2000000≤k)(fu:List (Nat×Nat))(az:Bool)(a:List ByteArray)(z:Bool)(L:Nat)(hl:(L:Int)≤1048576): ∀ (n i:Nat)(l:List ByteArray)(b:Nat),l.length=L→i≤L→0<b→b+L≤8796093022208+i→L - i<n→
    lp (k+1) laws_markStringS [(.arr true (az) (.strs (a)))] fu 2 (n) (qz4 (b:Int) (i:Int) z l)=some [.int .i64 ((b+(L - i):Nat):Int),.arr true z (.strs (l.take i++qvt b (L - i)))]
  | 0,i,l,b,hL,hi,h0,hb,hn=>by omega
  | n+1,i,l,b,hL,hi,h0,hb,hn=>by
    rw [qr7]
    by_cases h:i<L
    · have e:=qew k (by omega) b h0 (by omega)
      have IH:=quy k hk fu az a z L hl n (i+1) (l.set i (mtx b)) (b+1) (by simp [hL]) (by omega) (by omega) (by omega) (by omega)
      simp (disch:=omega) only [wk,bit,nI,e]
      rw [IH]
      rw [q08 l i (mtx b) _ (by omega),show L - i=(L - (i+1))+1 by omega]
      simp only [qvt]
      rw [show b+1+(L - (i+1))=b+(L - (i+1)+1) by omega]
    · simp (disch:=omega) only [wk,bit,nI]
      rw [show L - i=0 by omega]
      simp only [qvt,List.append_nil]
      rw [List.take_of_length_le (by omega)]
      simp
theorem qev (k:Nat)(hk:2000000≤k)(z:Bool)(l:List ByteArray)(b:Nat)(hl:(l.length:Int)≤1048576)(h0:0<b)(hb:b≤1000000):go (k+2) laws_markStringS [.arr true z (.strs l),.int .i64 (b:Int)]=some [.int .i64 ((b+l.length:Nat):Int),.arr true z (.strs (qvt b l.length))]:=by
  rw [ql4]
  have e:=quy k hk [] z l z l.length hl (k+1) 0 l b rfl (by omega) h0 (by omega) (by omega)
  rw [Nat.sub_zero,List.take_zero,List.nil_append,show ((0:Nat):Int)=0 from rfl] at e
  exact e
theorem qt1 (k:Nat)(hk:2000000≤k)(fu:List (Nat×Nat))(z:Bool)(L b0:Nat)(hl:(L:Int)≤1048576)(h0:0<b0)(hb:b0≤1000000): ∀ (n i:Nat),i≤L→L - i<n→
    lp (k+1) laws_heldStringS [] fu 2 (n) (qz1 ((b0+i:Nat):Int) (i:Int) z (qvt b0 L))=some [.int .i64 ((b0+L:Nat):Int)]
  | 0,i,hi,hn=>by omega
  | n+1,i,hi,hn=>by
    rw [qr4]
    have ml:=qvv L b0
    by_cases h:i<L
    · have e:=qew k (by omega) (b0+i) (by omega) (by omega)
      have gg:=qvu L i b0 h
      have IH:=qt1 k hk fu z L b0 hl h0 hb n (i+1) (by omega) (by omega)
      rw [show b0+(i+1)=b0+i+1 by omega] at IH
      simp (disch:=omega) only [wk,bit,nI,ml,e,gg,decide_true]
      exact IH
    · obtain rfl:i=L:=by omega
      simp (disch:=omega) only [wk,bit,nI,ml]
theorem qeq (k:Nat)(hk:2000000≤k)(z:Bool)(L b:Nat)(hl:(L:Int)≤1048576)(h0:0<b)(hb:b≤1000000):go (k+2) laws_heldStringS [.arr false z (.strs (qvt b L)),.int .i64 (b:Int)]=some [.int .i64 ((b+L:Nat):Int)]:=by
  rw [qlz]
  have e:=qt1 k hk [] z L b hl h0 hb (k+1) 0 (by omega) (by omega)
  rw [Nat.add_zero,show ((0:Nat):Int)=0 from rfl] at e
  exact e
theorem qtz (k:Nat)(hk:2000000≤k)(fu:List (Nat×Nat))(z z' :Bool)(l:List ByteArray)(hl:(l.length:Int)≤1048576): ∀ (n i:Nat),i≤l.length→l.length - i<n→
    lp k laws_eqStringS [] fu 4 (n) (qz0 (i:Int) z l z' l)=some [.bool true]
  | 0,i,hi,hn=>by omega
  | n+1,i,hi,hn=>by
    rw [qr3]
    by_cases h:i<l.length
    · have IH:=qtz k hk fu z z' l hl n (i+1) (by omega) (by omega)
      simp (disch:=omega) only [wk,bit,nI,decide_true]
      exact IH
    · simp (disch:=omega) only [wk,bit,nI]
theorem qeo (k:Nat)(hk:2000000≤k)(z z' :Bool)(l:List ByteArray)(hl:(l.length:Int)≤1048576):go (k+1) laws_eqStringS [.arr false z (.strs l),.arr false z' (.strs l)]=some [.bool true]:=by
  rw [qlx]
  have e:=qtz k hk [] z z' l hl (k+0) 0 (by omega) (by omega)
  simp (disch:=omega) only [wk,bit,nI,decide_true]
  exact e
end Go.Proofs.YtjfjniebmdafeaaGreatDoor
end
section
namespace Go.Proofs.YtjfjniebmdafeaaGreatDoor
open Go.Ev
set_option maxRecDepth 20000
theorem qyt (w:Wd)(acts:Acts):(qys w acts).length≤50:=by
  unfold qys
  have:=qyz w acts; have:=qpf (runW w acts).1
  simp only [List.length_append,List.length_map]; omega
theorem qyu {w:Wd}{t:List UInt8}{l:List ByteArray}(h:rsP w t=some l):(l.length:Int)≤50:=by
  unfold rsP at h
  cases g:decide (t.length≤20000)&&wdOk w
  · rw [g] at h; cases h
  rw [g,qik] at h
  unfold rsL at h
  cases g2:scrP (linesGo [] t) [] with
  | none=>rw [g2] at h; cases h
  | some acts=>
    rw [g2] at h
    have h:rsA w acts=some l:=h
    unfold rsA at h
    cases g3:decide (acts.length≤30)
    · rw [g3] at h; cases h
    · rw [g3,qik] at h
      cases h
      have:=qyt w acts
      omega
set_option maxHeartbeats 2000000 in
theorem law_RunScript (k:Nat)(hk:2000000≤k)(a0:Int)(a1z:Bool)(a1:List (Int×Int×Int))(a2z:Bool)(a2:List Int)(a3z:Bool)(a3:List Int)(a4z:Bool)(a4:List Int)(a5:Int)(a6:Int)(a7:Int)(a8:Int)(a9:Int)(a10:Int)(a11:Int)(a12:Int)(a13:Int)(a14:Int)(a15:Int)(a16:Int)(a17:Int)(a18:Int)(a19:Int)(a20:Int)(b:ByteArray)(hl_a1:(a1.length:Int)≤9223372036854775807)(hl_a2:(a2.length:Int)≤9223372036854775807)(hl_a3:(a3.length:Int)≤9223372036854775807)(hl_a4:(a4.length:Int)≤9223372036854775807):go (k+17) laws_FnExactRunScript [(.agg [(.int .i64 (a0)),(.arr false (a1z) (.r3 (a1))),(.arr false (a2z) (.ints .i64 (a2))),(.arr false (a3z) (.ints .i64 (a3))),(.arr false (a4z) (.ints .i64 (a4))),(.int .i64 (a5)),(.int .i64 (a6)),(.int .i64 (a7)),(.int .i64 (a8)),(.int .i64 (a9)),(.int .i64 (a10)),(.int .i64 (a11)),(.int .i64 (a12)),(.int .i64 (a13)),(.int .i64 (a14)),(.int .i64 (a15)),(.int .i64 (a16)),(.int .i64 (a17)),(.int .i64 (a18)),(.int .i64 (a19)),(.int .i64 (a20))]),(.str (b))]=some [.bool true]:=by
  rw [qlo]
  obtain ⟨t,rfl⟩: ∃ t,b=ba t:=⟨b.data.toList,(Lib.mk_data b).symm⟩
  have sz:=qbd t
  by_cases ht:(1048576:Int)<(t.length:Int)
  · simp (disch:=omega) only [wk,bit,nI,sz]
  by_cases h:(a1.length:Int)+a2.length+a3.length+a4.length≤1048576
  case neg=>simp (disch:=omega) only [wk,bit,nI,sz,qe2,if_neg h]
  obtain ⟨w,hw⟩: ∃ w:Wd,w=⟨a0,(a1,a2,a3),a4,⟨a5,a6,a7,a8,a9,a10,a11,a12,a13⟩,a14,⟨a15,a16,a17,a18⟩,a19,a20⟩:=⟨_,rfl⟩
  have S:Sml w:=by subst hw; exact ⟨by show (a1.length:Int)≤_; omega,by show (a2.length:Int)≤_; omega,by show (a3.length:Int)≤_; omega,by show (a4.length:Int)≤_; omega⟩
  have eA: ∀ (k:Nat),2000000≤k→go (k+12) spec_RunScript [.agg [.int .i64 (a0),.arr false false (.r3 (a1)),.arr false false (.ints .i64 (a2)),.arr false false (.ints .i64 (a3)),.arr false false (.ints .i64 (a4)),.int .i64 (a5),.int .i64 (a6),.int .i64 (a7),.int .i64 (a8),.int .i64 (a9),.int .i64 (a10),.int .i64 (a11),.int .i64 (a12),.int .i64 (a13),.int .i64 (a14),.int .i64 (a15),.int .i64 (a16),.int .i64 (a17),.int .i64 (a18),.int .i64 (a19),.int .i64 (a20)],.str (ba t)]=some (rsD false (rsP w t)):=fun k hk=>by subst hw; exact qf9 k hk ⟨a0,(a1,a2,a3),a4,⟨a5,a6,a7,a8,a9,a10,a11,a12,a13⟩,a14,⟨a15,a16,a17,a18⟩,a19,a20⟩ S t
  have eB: ∀ (k:Nat),2000000≤k→go (k+16) impl_RunScript [.agg [.int .i64 (a0),.arr false false (.r3 (a1)),.arr false false (.ints .i64 (a2)),.arr false false (.ints .i64 (a3)),.arr false false (.ints .i64 (a4)),.int .i64 (a5),.int .i64 (a6),.int .i64 (a7),.int .i64 (a8),.int .i64 (a9),.int .i64 (a10),.int .i64 (a11),.int .i64 (a12),.int .i64 (a13),.int .i64 (a14),.int .i64 (a15),.int .i64 (a16),.int .i64 (a17),.int .i64 (a18),.int .i64 (a19),.int .i64 (a20)],.str (ba t)]=some (rsD true (rsP w t)):=fun k hk=>by subst hw; exact qcp k hk ⟨a0,(a1,a2,a3),a4,⟨a5,a6,a7,a8,a9,a10,a11,a12,a13⟩,a14,⟨a15,a16,a17,a18⟩,a19,a20⟩ S t
  have T:=fun l=> @qyu w t l
  cases g:rsP w t with
  | none=>
    simp only [g,rsD] at eA eB
    have m1:=qev (k+14) (by omega) true [] 1 (by simp) (by omega) (by omega)
    have m2:=qeq (k+14) (by omega) true 0 1 (by omega) (by omega) (by omega)
    rw [show ((1:Nat):Int)=1 from rfl] at m1 m2
    have z0:qvt 1 0=[]:=rfl
    have z1:([]:List ByteArray).length=0:=Eq.trans rfl rfl
    have eq:=qeo (k+15) (by omega) true false [] (by simp)
    rw [z0] at m2
    rw [z1] at m1
    rw [z0] at m1
    simp (disch:=omega) only [wk,bit,nI,sz,qe2,if_pos h,qfb,eA,eB,qep,qex,eq,m1,m2,decide_true]
  | some X=>
    have T:=T X g
    simp only [g,rsD] at eA eB
    have m1:=qev (k+14) (by omega) false X 1 (by omega) (by omega) (by omega)
    have m2:=qeq (k+14) (by omega) false X.length 1 (by omega) (by omega) (by omega)
    rw [show ((1:Nat):Int)=1 from rfl] at m1 m2
    simp (disch:=omega) only [wk,bit,nI,sz,qe2,if_pos h,qfb,eA,eB,qep,qex,qeo,m1,m2,decide_true]
end Go.Proofs.YtjfjniebmdafeaaGreatDoor
end
