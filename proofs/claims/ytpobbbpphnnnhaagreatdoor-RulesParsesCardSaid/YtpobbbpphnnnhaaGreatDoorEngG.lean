/-
  Texts of a claim.
-/
import Derived.MapKept
import Derived.ChangeMaps5
import Derived.Carry
import Derived.Test.YtpobbbpphnnnhaaGreatDoorEngQ
namespace Go.Eng
set_option linter.unusedVariables false
set_option linter.unusedSimpArgs false
theorem qAx:∀(ks:List NK) (x:NT ks) (vs:List Value),(qAv ks x vs).length=ks.length
 | [],_,_=>rfl
 | .int _::r,x,vs=>by simp only [qAv,List.length_cons,qAx r]
 | .bool::r,x,vs=>by simp only [qAv,List.length_cons,qAx r]
 | .str::r,x,vs=>by simp only [qAv,List.length_cons,qAx r]
 | .map::r,x,vs=>by simp only [qAv,List.length_cons,qAx r]
 | .rw _::r,x,vs=>by simp only [qAv,List.length_cons,qAx r]
theorem qEb {ks:List NK}:∀ {l:List (NT ks)} {rs:List (List Value)},rs.length=l.length→(qA4 ks l rs).length=l.length*ks.length
 | [],[],_=>by simp [qA4]
 | x::l,r::rs,h=>by
  simp only [qA4,List.length_append,qAx,List.length_cons];rw [qEb (l:=l) (rs:=rs) (by simpa using h),Nat.add_mul];omega
 | [],_::_,h=>by simp at h
 | _::_,[],h=>by simp at h
theorem qA3.len {X:Nat→Prop} {w0 w:World} {ks:List NK}:∀ {l:List (NT ks)} {rs:List (List Value)},qA3 X w0 w ks l rs→rs.length=l.length
 | [],[],_=>rfl
 | x::l,r::rs,h=>by simp only [List.length_cons,qA3.len h.2]
 | [],_::_,h=>h.elim
 | _::_,[],h=>h.elim
theorem qA3.at {X:Nat→Prop} {w0 w:World} {ks:List NK} (d:NT ks):∀ {l:List (NT ks)} {rs:List (List Value)},qA3 X w0 w ks l rs→∀ {i:Nat},i<l.length→∃r,rs[i]?=some r∧qA7 X w0 w ks (l.getD i d) r
 | [],[],_,i,hi=>by simp at hi
 | x::l,r::rs,h,i,hi=>by
  cases i with
  | zero=>exact ⟨r,rfl,h.1⟩
  | succ i =>
   obtain ⟨r',h1,h2⟩:=qA3.at d h.2 (i:=i) (by simpa using hi);exact ⟨r',by simpa using h1,by simpa [List.getD] using h2⟩
 | [],_::_,h,_,_=>h.elim
 | _::_,[],h,_,_=>h.elim
theorem bagVals_get {ks:List NK} (d:NT ks):∀(l:List (NT ks)) (rs:List (List Value)) (i k:Nat) (r:List Value) (u:Value),rs.length=l.length→rs[i]?=some r→(qAv ks (l.getD i d) r)[k]?=some u→(qA4 ks l rs)[i*ks.length+k]?=some u
 | [],[],i,k,r,u,_,hr,_=>by simp at hr
 | x::l,r0::rs,i,k,r,u,h,hr,hu=>by
  have hk:k<ks.length:=by
   have:=(List.getElem?_eq_some_iff.1 hu).1;rwa [qAx] at this
  cases i with
  | zero =>
   simp at hr;subst hr;simp only [qA4,Nat.zero_mul,Nat.zero_add];rw [List.getElem?_append_left (by rw [qAx]; exact hk)];simpa [List.getD] using hu
  | succ i =>
   simp only [qA4];rw [List.getElem?_append_right (by rw [qAx,Nat.add_mul]; omega),qAx,show (i+1)*ks.length+k - ks.length=i*ks.length+k by rw [Nat.add_mul]; omega];exact bagVals_get d l rs i k r u (by simpa using h) (by simpa using hr) (by simpa [List.getD] using hu)
 | [],_::_,_,_,_,_,h,_,_=>by simp at h
 | _::_,[],_,_,_,_,h,_,_=>by simp at h
theorem bagVals_append {ks:List NK}:∀(l m:List (NT ks)) (rs qs:List (List Value)),rs.length=l.length→qA4 ks (l++m) (rs++qs)=qA4 ks l rs++qA4 ks m qs
 | [],m,[],qs,_=>rfl
 | x::l,m,r::rs,qs,h=>by
  simp only [List.cons_append,qA4,List.append_assoc];rw [bagVals_append l m rs qs (by simpa using h)]
 | [],_,_::_,_,h=>by simp at h
 | _::_,_,[],_,h=>by simp at h
theorem bagVals_take {ks:List NK}:∀(l:List (NT ks)) (rs:List (List Value)) (n:Nat),rs.length=l.length→qA4 ks (l.take n) (rs.take n)=(qA4 ks l rs).take (n*ks.length)
 | [],[],n,_=>by simp [qA4]
 | x::l,r::rs,n,h=>by
  cases n with
  | zero=>simp [qA4]
  | succ n =>
   simp only [List.take_succ_cons,qA4];have e1:((qAv ks x r).take ((n+1)*ks.length))=qAv ks x r:=List.take_of_length_le (by rw [qAx,Nat.add_mul]; omega);rw [bagVals_take l rs n (by simpa using h),List.take_append,e1,qAx,show (n+1)*ks.length - ks.length=n*ks.length by rw [Nat.add_mul]; omega]
 | [],_::_,_,h=>by simp at h
 | _::_,[],_,h=>by simp at h
theorem bagVals_set {ks:List NK} (y:NT ks):∀(l:List (NT ks)) (rs:List (List Value)) (i:Nat) (r:List Value),rs.length=l.length→rs[i]?=some r →
  qA4 ks (l.set i y) rs=(qA4 ks l rs).take (i*ks.length)++qAv ks y r++(qA4 ks l rs).drop ((i+1)*ks.length)
 | [],[],i,r,_,hr=>by simp at hr
 | x::l,r0::rs,i,r,h,hr=>by
  cases i with
  | zero =>
   simp at hr;subst hr;simp only [List.set_cons_zero,qA4,Nat.zero_mul,List.take_zero,List.nil_append,Nat.zero_add,Nat.one_mul];rw [List.drop_left' (qAx ..)]
  | succ i =>
   simp only [List.set_cons_succ,qA4];have e1:((qAv ks x r0).take ((i+1)*ks.length))=qAv ks x r0:=List.take_of_length_le (by rw [qAx,Nat.add_mul]; omega);have e2:((qAv ks x r0).drop ((i+1+1)*ks.length))=[]:=List.drop_eq_nil_of_le (by rw [qAx,Nat.add_mul,Nat.add_mul]; omega);rw [bagVals_set y l rs i r (by simpa using h) (by simpa using hr),List.take_append,e1,qAx,show (i+1)*ks.length - ks.length=i*ks.length by rw [Nat.add_mul]; omega,
    List.drop_append,e2,qAx,show (i+1+1)*ks.length - ks.length=(i+1)*ks.length by rw [Nat.add_mul (i+1)]; omega]
   simp only [List.append_assoc,List.nil_append]
 | [],_::_,_,_,h,_=>by simp at h
 | _::_,[],_,_,h,_=>by simp at h
theorem bagVals_el {ks:List NK} (d:NT ks):∀(l:List (NT ks)) (rs:List (List Value)) (i:Nat) (r:List Value),rs.length=l.length→rs[i]?=some r →
  qAv ks (l.getD i d) r=((qA4 ks l rs).drop (i*ks.length)).take ks.length
 | [],[],i,r,_,hr=>by simp at hr
 | x::l,r0::rs,i,r,h,hr=>by
  cases i with
  | zero =>
   simp at hr;subst hr;simp only [List.getD,List.getElem?_cons_zero,Option.getD_some,qA4,Nat.zero_mul,List.drop_zero];rw [List.take_left' (qAx ..)]
  | succ i =>
   simp only [List.getD,List.getElem?_cons_succ,qA4];have:=bagVals_el d l rs i r (by simpa using h) (by simpa using hr);rw [List.getD] at this;have e2:((qAv ks x r0).drop ((i+1)*ks.length))=[]:=List.drop_eq_nil_of_le (by rw [qAx,Nat.add_mul]; omega);rw [this,List.drop_append,e2,qAx,List.nil_append,show (i+1)*ks.length - ks.length=i*ks.length by rw [Nat.add_mul]; omega]
 | [],_::_,_,_,h,_=>by simp at h
 | _::_,[],_,_,h,_=>by simp at h
theorem qGs.one {X:Nat→Prop} {w0 w:World} {v:Value}:∀ {m:MapC},qGs X w0 w v m→v.oneCell'=true
 | none,h=>by rw [show v=_ from h]; rfl
 | some m,⟨b,es,c,h,_⟩=>by rw [h]; rfl
theorem RowAt.slice {X:Nat→Prop} {w0 w:World} {q:QK} {v:Value} {l:List q.T} (h:RowAt X w0 w q v l):∃ad cap,v=.slice ad (q.l l).length cap:=by
 obtain ⟨⟨e,h1⟩,_⟩:=h;rcases h1.2 with ⟨hv,hn⟩ | ⟨g,cap,cur,hv,_⟩
 ·exact ⟨none,0,by rw [hv,hn]⟩
 ·exact ⟨_,_,hv⟩
theorem RowAt.one {X:Nat→Prop} {w0 w:World} {q:QK} {v:Value} {l:List q.T} (h:RowAt X w0 w q v l):v.oneCell'=true:=by
 obtain ⟨_,_,h⟩:=h.slice;rw [h]; rfl
theorem qFd {X:Nat→Prop} {w0 w:World}:∀ {ks:List NK} {x:NT ks} {vs:List Value},qA7 X w0 w ks x vs→∀v∈qAv ks x vs,v.oneCell'=true
 | [],_,_,h,v,hv=>by simp [qAv] at hv
 | .int _::r,x,vs,h,v,hv=>by
  simp only [qAv,List.mem_cons] at hv;rcases hv with rfl | hv
  ·rfl
  ·exact qFd (ks:=r) (x:=x.2) h v hv
 | .bool::r,x,vs,h,v,hv=>by
  simp only [qAv,List.mem_cons] at hv;rcases hv with rfl | hv
  ·rfl
  ·exact qFd (ks:=r) (x:=x.2) h v hv
 | .str::r,x,vs,h,v,hv=>by
  simp only [qAv,List.mem_cons] at hv;rcases hv with rfl | hv
  ·rfl
  ·exact qFd (ks:=r) (x:=x.2) h v hv
 | .map::r,x,_,⟨v0,vs',rfl,h1,h2⟩,v,hv=>by
  simp only [qAv,List.mem_cons,List.headD_cons,List.tail_cons] at hv;rcases hv with rfl | hv
  ·exact h1.one
  ·exact qFd (ks:=r) (x:=x.2) h2 v hv
 | .rw _::r,x,_,⟨v0,vs',rfl,h1,h2⟩,v,hv=>by
  simp only [qAv,List.mem_cons,List.headD_cons,List.tail_cons] at hv;rcases hv with rfl | hv
  ·exact h1.one
  ·exact qFd (ks:=r) (x:=x.2) h2 v hv
theorem BagOK.slice {X:Nat→Prop} {w0 w:World} {ks:List NK} {e:Nat} {l:List (NT ks)} {u:Value} {rs:List (List Value)} (h:BagOK X w0 w ks e l u rs):∃ad cap,u=.slice ad l.length cap:=by
 rcases h.row.2 with ⟨hv,hn⟩ | ⟨g,cap,cur,hv,_⟩
 ·exact ⟨none,0,by rw [hv,hn]⟩
 ·exact ⟨_,_,hv⟩
theorem BagOK.one {X:Nat→Prop} {w0 w:World} {ks:List NK} {e:Nat} {l:List (NT ks)} {u:Value} {rs:List (List Value)} (h:BagOK X w0 w ks e l u rs):u.oneCell'=true:=by
 obtain ⟨_,_,h⟩:=h.slice;rw [h]; rfl
theorem drop_cons {α:Type} {l:List α} {j:Nat} {v:α} {r:List α} (h:l.drop j=v::r):l[j]?=some v∧l.drop (j+1)=r:=by
 have h1:(l.drop j)[0]?=some v:=by rw [h]; rfl
 rw [List.getElem?_drop] at h1;refine ⟨by simpa using h1,?_⟩;rw [←List.drop_drop,h];rfl
theorem qDk {X:Nat→Prop} {w0 w:World} {ρ:Nat→Value} {k i:Nat} {u:Value} {rs:List (List Value)} {r:List Value} (hk:ρ k=bagV u rs) (hr:rs[i]?=some r):∀(ks:List NK) (x:NT ks) (j:Nat),qA7 X w0 w ks x (r.drop j) →
  (qBw k i ks x j).map (S0.den ρ)=qAv ks x (r.drop j)
 | [],_,_,_=>rfl
 | .int _::q,x,j,h=>by simp only [qBw,qAv,List.map_cons,S0.den,qDk hk hr q x.2 j h]
 | .bool::q,x,j,h=>by simp only [qBw,qAv,List.map_cons,S0.den,qDk hk hr q x.2 j h]
 | .str::q,x,j,h=>by simp only [qBw,qAv,List.map_cons,S0.den,qDk hk hr q x.2 j h]
 | .map::q,x,j,⟨v,vs',he,h1,h2⟩=>by
  obtain ⟨e1,e2⟩:=drop_cons he;have h3:=qDk hk hr q x.2 (j+1) (by rw [e2]; exact h2);simp only [qBw,qAv,List.map_cons,S0.den,h3,he,List.headD_cons,List.tail_cons];rw [hk,qHc u hr e1 h1.one,e2]
 | .rw _::q,x,j,⟨v,vs',he,h1,h2⟩=>by
  obtain ⟨e1,e2⟩:=drop_cons he;have h3:=qDk hk hr q x.2 (j+1) (by rw [e2]; exact h2);simp only [qBw,qAv,List.map_cons,S0.den,h3,he,List.headD_cons,List.tail_cons];rw [hk,qHc u hr e1 h1.one,e2]
theorem qEd {k i n:Nat} (hk:k<n):∀(ks:List NK) (x:NT ks) (j:Nat),∀y∈qBw k i ks x j,y.lt n
 | [],_,_,y,hy=>by simp [qBw] at hy
 | .int _::q,x,j,y,hy=>by
  simp only [qBw,List.mem_cons] at hy;rcases hy with rfl | hy
  ·trivial
  ·exact qEd hk q x.2 j y hy
 | .bool::q,x,j,y,hy=>by
  simp only [qBw,List.mem_cons] at hy;rcases hy with rfl | hy
  ·trivial
  ·exact qEd hk q x.2 j y hy
 | .str::q,x,j,y,hy=>by
  simp only [qBw,List.mem_cons] at hy;rcases hy with rfl | hy
  ·trivial
  ·exact qEd hk q x.2 j y hy
 | .map::q,x,j,y,hy=>by
  simp only [qBw,List.mem_cons] at hy;rcases hy with rfl | hy
  ·exact hk
  ·exact qEd hk q x.2 (j+1) y hy
 | .rw _::q,x,j,y,hy=>by
  simp only [qBw,List.mem_cons] at hy;rcases hy with rfl | hy
  ·exact hk
  ·exact qEd hk q x.2 (j+1) y hy
theorem qFi {X:Nat→Prop} {w0 w:World}:∀ {ks:List NK} {x y:NT ks} {off:Nat} {v:S0},nkSet ks x off v=some y →
  off<ks.length∧∃u,v=.val u∧u.oneCell'=true∧(∀vs,qAv ks y vs=(qAv ks x vs).set off u)∧∀vs,qA7 X w0 w ks x vs→qA7 X w0 w ks y vs
 | [],x,y,off,v,h=>by simp [nkSet] at h
 | .int q::r,x,y,0,v,h=>by
  simp only [nkSet] at h;split at h
  ·rename_i q' n;cases hq:decide (q'=q) with
   | false=>rw [hq] at h; simp at h
   | true =>
    rw [hq] at h;simp only [cnT,snJ] at h;subst h;have:=of_decide_eq_true hq;subst this;exact ⟨Nat.succ_pos _,_,rfl,rfl,fun vs=>rfl,fun vs h=>h⟩
  ·cases h
 | .bool::r,x,y,0,v,h=>by
  simp only [nkSet] at h;split at h
  ·simp only [snJ] at h;subst h;exact ⟨Nat.succ_pos _,_,rfl,rfl,fun vs=>rfl,fun vs h=>h⟩
  ·cases h
 | .str::r,x,y,0,v,h=>by
  simp only [nkSet] at h;split at h
  ·simp only [snJ] at h;subst h;exact ⟨Nat.succ_pos _,_,rfl,rfl,fun vs=>rfl,fun vs h=>h⟩
  ·cases h
 | .map::r,x,y,0,v,h=>by simp [nkSet] at h
 | .rw _::r,x,y,0,v,h=>by simp [nkSet] at h
 | .int q::r,x,y,off+1,v,h=>by
  simp only [nkSet] at h;split at h
  ·rename_i z hz;simp only [snJ] at h;subst h;obtain ⟨h1,u,h2,h3,h4,h5⟩:=qFi (X:=X) (w0:=w0) (w:=w) hz;exact ⟨by simpa using h1,u,h2,h3,fun vs=>by simp only [qAv,List.set_cons_succ,h4],fun vs h=>h5 vs h⟩
  ·cases h
 | .bool::r,x,y,off+1,v,h=>by
  simp only [nkSet] at h;split at h
  ·rename_i z hz;simp only [snJ] at h;subst h;obtain ⟨h1,u,h2,h3,h4,h5⟩:=qFi (X:=X) (w0:=w0) (w:=w) hz;exact ⟨by simpa using h1,u,h2,h3,fun vs=>by simp only [qAv,List.set_cons_succ,h4],fun vs h=>h5 vs h⟩
  ·cases h
 | .str::r,x,y,off+1,v,h=>by
  simp only [nkSet] at h;split at h
  ·rename_i z hz;simp only [snJ] at h;subst h;obtain ⟨h1,u,h2,h3,h4,h5⟩:=qFi (X:=X) (w0:=w0) (w:=w) hz;exact ⟨by simpa using h1,u,h2,h3,fun vs=>by simp only [qAv,List.set_cons_succ,h4],fun vs h=>h5 vs h⟩
  ·cases h
 | .map::r,x,y,off+1,v,h=>by
  simp only [nkSet] at h;split at h
  ·rename_i z hz;simp only [snJ] at h;subst h;obtain ⟨h1,u,h2,h3,h4,h5⟩:=qFi (X:=X) (w0:=w0) (w:=w) hz;refine ⟨by simpa using h1,u,h2,h3,fun vs=>by simp only [qAv,List.set_cons_succ,h4],fun vs ⟨v0,vs',h6,h7,h8⟩=>⟨v0,vs',h6,h7,h5 vs' h8⟩⟩
  ·cases h
 | .rw _::r,x,y,off+1,v,h=>by
  simp only [nkSet] at h;split at h
  ·rename_i z hz;simp only [snJ] at h;subst h;obtain ⟨h1,u,h2,h3,h4,h5⟩:=qFi (X:=X) (w0:=w0) (w:=w) hz;refine ⟨by simpa using h1,u,h2,h3,fun vs=>by simp only [qAv,List.set_cons_succ,h4],fun vs ⟨v0,vs',h6,h7,h8⟩=>⟨v0,vs',h6,h7,h5 vs' h8⟩⟩
  ·cases h
theorem qEe {X:Nat→Prop} {w0 w:World}:∀ {ks:List NK} {x:NT ks} {j:Nat} {m:MapC} {vs:List Value},qFa ks x j=some m→qA7 X w0 w ks x vs→∃v,vs[j]?=some v∧qGs X w0 w v m
 | [],x,j,m,vs,h,_=>by simp [qFa] at h
 | .int _::r,x,j,m,vs,h,h1=>qEe (ks:=r) (x:=x.2) (by simpa [qFa] using h) h1
 | .bool::r,x,j,m,vs,h,h1=>qEe (ks:=r) (x:=x.2) (by simpa [qFa] using h) h1
 | .str::r,x,j,m,vs,h,h1=>qEe (ks:=r) (x:=x.2) (by simpa [qFa] using h) h1
 | .map::r,x,0,m,vs,h,⟨v,vs',he,h1,_⟩=>by
  simp only [qFa,snJ] at h;subst h he;exact ⟨v,rfl,h1⟩
 | .map::r,x,j+1,m,vs,h,⟨v,vs',he,_,h2⟩=>by
  simp only [qFa] at h;subst he;obtain ⟨v',h3,h4⟩:=qEe (ks:=r) (x:=x.2) h h2;exact ⟨v',by simpa using h3,h4⟩
 | .rw _::r,x,0,m,vs,h,_=>by simp [qFa] at h
 | .rw _::r,x,j+1,m,vs,h,⟨v,vs',he,_,h2⟩=>by
  simp only [qFa] at h;subst he;obtain ⟨v',h3,h4⟩:=qEe (ks:=r) (x:=x.2) h h2;exact ⟨v',by simpa using h3,h4⟩
theorem qFh:∀(ks:List NK) (x:NT ks) (j:Nat) (m:MapC) (vs:List Value),qAv ks (nkPut ks x j m) vs=qAv ks x vs
 | [],_,_,_,_=>rfl
 | .int _::r,x,j,m,vs=>by simp only [nkPut,qAv,qFh r]
 | .bool::r,x,j,m,vs=>by simp only [nkPut,qAv,qFh r]
 | .str::r,x,j,m,vs=>by simp only [nkPut,qAv,qFh r]
 | .map::r,x,0,m,vs=>rfl
 | .map::r,x,j+1,m,vs=>by simp only [nkPut,qAv,qFh r]
 | .rw _::r,x,0,m,vs=>rfl
 | .rw _::r,x,j+1,m,vs=>by simp only [nkPut,qAv,qFh r]
theorem qFg {X:Nat→Prop} {w0 w w':World}:∀ {ks:List NK} {x:NT ks} {j:Nat} {m m':MapC} {vs:List Value},qFa ks x j=some m→qA7 X w0 w ks x vs →
  (∀j' v,j'≠j→vs[j']?=some v→∀k,fp1 v=some k→Same w w' k)→(∀v,vs[j]?=some v→qGs X w0 w' v m')→qA7 X w0 w' ks (nkPut ks x j m') vs
 | [],x,j,m,m',vs,h,_,_,_=>by simp [qFa] at h
 | .int _::r,x,j,m,m',vs,h,h1,h2,h3=>qFg (ks:=r) (x:=x.2) (by simpa [qFa] using h) h1 h2 h3
 | .bool::r,x,j,m,m',vs,h,h1,h2,h3=>qFg (ks:=r) (x:=x.2) (by simpa [qFa] using h) h1 h2 h3
 | .str::r,x,j,m,m',vs,h,h1,h2,h3=>qFg (ks:=r) (x:=x.2) (by simpa [qFa] using h) h1 h2 h3
 | .map::r,x,0,m,m',vs,h,⟨v,vs',he,h1,h1'⟩,h2,h3=>by
  subst he;refine ⟨v,vs',rfl,h3 v rfl,qA7.keep (ks:=r) (x:=x.2) h1' fun k hk=>?_⟩;obtain ⟨v',hv',hf⟩:=List.mem_filterMap.1 hk;obtain ⟨i,hi⟩:=List.getElem?_of_mem hv';exact h2 (i+1) v' (by omega) (by simpa using hi) k hf
 | .map::r,x,j+1,m,m',vs,h,⟨v,vs',he,h1,h1'⟩,h2,h3=>by
  subst he;refine ⟨v,vs',rfl,h1.keep fun k hk=>h2 0 v (by omega) rfl k hk,qFg (ks:=r) (x:=x.2) (by simpa [qFa] using h) h1' (fun j' v' hj hv=>h2 (j'+1) v' (by omega) (by simpa using hv)) fun v' hv=>h3 v' (by simpa using hv)⟩
 | .rw _::r,x,0,m,m',vs,h,_,_,_=>by simp [qFa] at h
 | .rw _::r,x,j+1,m,m',vs,h,⟨v,vs',he,h1,h1'⟩,h2,h3=>by
  subst he;refine ⟨v,vs',rfl,h1.keep fun k hk=>h2 0 v (by omega) rfl k hk,qFg (ks:=r) (x:=x.2) (by simpa [qFa] using h) h1' (fun j' v' hj hv=>h2 (j'+1) v' (by omega) (by simpa using hv)) fun v' hv=>h3 v' (by simpa using hv)⟩
theorem qDl {X:Nat→Prop} {w0 w:World}:∀ {ks:List NK} {x:NT ks} {j:Nat} {sb:SB} {vs:List Value},qCi ks x j=some sb→qA7 X w0 w ks x vs→∃v q,∃l:List q.T,vs[j]?=some v∧sb=.view q.et (q.l l)∧RowAt X w0 w q v l
 | [],x,j,sb,vs,h,_=>by simp [qCi] at h
 | .int _::r,x,j,sb,vs,h,h1=>qDl (ks:=r) (x:=x.2) (by simpa [qCi] using h) h1
 | .bool::r,x,j,sb,vs,h,h1=>qDl (ks:=r) (x:=x.2) (by simpa [qCi] using h) h1
 | .str::r,x,j,sb,vs,h,h1=>qDl (ks:=r) (x:=x.2) (by simpa [qCi] using h) h1
 | .map::r,x,0,sb,vs,h,_=>by simp [qCi] at h
 | .map::r,x,j+1,sb,vs,h,⟨v,vs',he,_,h2⟩=>by
  simp only [qCi] at h;subst he;obtain ⟨v',q,l,h3,h4⟩:=qDl (ks:=r) (x:=x.2) h h2;exact ⟨v',q,l,by simpa using h3,h4⟩
 | .rw q::r,x,0,sb,vs,h,⟨v,vs',he,h1,_⟩=>by
  simp only [qCi,snJ] at h;subst he;exact ⟨v,q,x.1,rfl,h.symm,h1⟩
 | .rw _::r,x,j+1,sb,vs,h,⟨v,vs',he,_,h2⟩=>by
  simp only [qCi] at h;subst he;obtain ⟨v',q,l,h3,h4⟩:=qDl (ks:=r) (x:=x.2) h h2;exact ⟨v',q,l,by simpa using h3,h4⟩
theorem qE9 {rs:List (List Value)} {b:Nat}:b∈(rs.flatMap fun r=>r.filterMap fp1)↔∃i j v,qCj rs i j=some v∧fp1 v=some b:=by
 constructor
 ·intro h;obtain ⟨r,hr,h1⟩:=List.mem_flatMap.1 h;obtain ⟨v,hv,hf⟩:=List.mem_filterMap.1 h1;obtain ⟨i,hi⟩:=List.getElem?_of_mem hr;obtain ⟨j,hj⟩:=List.getElem?_of_mem hv;exact ⟨i,j,v,by simp only [qCj,hi,obS,hj],hf⟩
 ·rintro ⟨i,j,v,h,hf⟩
  unfold qCj at h;obtain ⟨r,hr,hj⟩:=Option.bind_eq_some_iff.1 h;exact List.mem_flatMap.2 ⟨r,List.mem_of_getElem? hr,List.mem_filterMap.2 ⟨v,List.mem_of_getElem? hj,hf⟩⟩
theorem qD2 {u:Value} {rs:List (List Value)} {b:Nat} (hu:∃ad n c,u=.slice ad n c):b∈fp (bagV u rs)↔u.ownBlock=some b∨∃i j v,qCj rs i j=some v∧fp1 v=some b:=by
 obtain ⟨ad,n,c,rfl⟩:=hu;rw [fp_bag,List.mem_append,qE9];cases ad with
 | none=>simp [fpI,fp1,Value.ownBlock]
 | some a=>simp [fpI,fp1,Value.ownBlock,eq_comm]
theorem qA3.turn {X:Nat→Prop} {w0 w w':World} {ks:List NK} {y:NT ks}:∀ {l:List (NT ks)} {rs:List (List Value)} {i:Nat},qA3 X w0 w ks l rs →
  (∀r,rs[i]?=some r→qA7 X w0 w' ks y r)→(∀i' j v,i'≠i→qCj rs i' j=some v→∀k,fp1 v=some k→Same w w' k)→qA3 X w0 w' ks (l.set i y) rs
 | [],[],i,h,_,_=>trivial
 | x::l,r::rs,0,h,h1,h2=>⟨h1 r rfl,h.2.keep fun k hk=>by
   obtain ⟨i,j,v,h3,h4⟩:=qE9.1 hk;exact h2 (i+1) j v (by omega) (by simpa [qCj] using h3) k h4⟩
 | x::l,r::rs,i+1,h,h1,h2=>⟨h.1.keep fun k hk=>by
   obtain ⟨v,hv,hf⟩:=List.mem_filterMap.1 hk;obtain ⟨j,hj⟩:=List.getElem?_of_mem hv;exact h2 0 j v (by omega) (by simpa [qCj] using hj) k hf,qA3.turn h.2 (fun r' hr=>h1 r' (by simpa using hr)) fun i' j v hi hv=>h2 (i'+1) j v (by omega) (by simpa [qCj] using hv)⟩
 | [],_::_,_,h,_,_=>h.elim
 | _::_,[],_,h,_,_=>h.elim
theorem qA3.append {X:Nat→Prop} {w0 w:World} {ks:List NK} {m:List (NT ks)} {qs:List (List Value)} (h2:qA3 X w0 w ks m qs):∀ {l:List (NT ks)} {rs:List (List Value)},qA3 X w0 w ks l rs→qA3 X w0 w ks (l++m) (rs++qs)
 | [],[],_=>h2
 | x::l,r::rs,h=>⟨h.1,qA3.append h2 h.2⟩
 | [],_::_,h=>h.elim
 | _::_,[],h=>h.elim
theorem qA3.take {X:Nat→Prop} {w0 w:World} {ks:List NK}:∀ {l:List (NT ks)} {rs:List (List Value)} (n:Nat),qA3 X w0 w ks l rs→qA3 X w0 w ks (l.take n) (rs.take n)
 | [],[],n,_=>by simp [qA3]
 | x::l,r::rs,0,h=>trivial
 | x::l,r::rs,n+1,h=>⟨h.1,qA3.take n h.2⟩
 | [],_::_,_,h=>h.elim
 | _::_,[],_,h=>h.elim
theorem refAt_take {rs:List (List Value)} {n i j:Nat} {v:Value} (h:qCj (rs.take n) i j=some v):qCj rs i j=some v:=by
 unfold qCj at h ⊢;obtain ⟨r,hr,hj⟩:=Option.bind_eq_some_iff.1 h;rw [List.getElem?_take] at hr;split at hr
 ·rw [hr]; exact hj
 ·cases hr
theorem qGm {rs qs:List (List Value)} {i j:Nat} {v:Value} (h:qCj (rs++qs) i j=some v):(i<rs.length∧qCj rs i j=some v)∨(rs.length≤i∧qCj qs (i - rs.length) j=some v):=by
 unfold qCj at h ⊢;by_cases hi:i<rs.length
 ·rw [List.getElem?_append_left hi] at h;exact .inl ⟨hi,h⟩
 ·rw [List.getElem?_append_right (by omega)] at h;exact .inr ⟨by omega,h⟩
theorem toList_beq' (x y:BA):(x == y)=decide (x=y):=by
 show (x.data == y.data)=_;by_cases h:x=y
 ·subst h; simp
 ·have:¬x.data=y.data:=fun e=>h (ByteArray.ext e)
  rw [deF h];simpa using this
theorem findNow_ents:∀ {es:List MapEntry} {m:List (BA × Int)},(es.map fun e=>(e.key,e.val))=(m.map fun x=>(Value.string x.1,Value.int .i64 x.2))→∀(s:BA) (i:Nat),
  (mfind m s=none∧Instr.findNow .string (.string s) es i=some none∧mset m s=fun v=>m++[(s,v)]) ∨
  (∃v j e,mfind m s=some v∧Instr.findNow .string (.string s) es i=some (some (i+j,.int .i64 v))∧es[j]?=some e∧e.key=.string s∧∀v',mset m s v'=m.set j (s,v'))
 | [],[],_,s,i=>.inl ⟨rfl,rfl,rfl⟩
 | e::es,x::m,h,s,i=>by
  simp only [List.map_cons,List.cons.injEq,Prod.mk.injEq] at h;obtain ⟨⟨hk,hv⟩,h⟩:=h;by_cases hs:s=x.1
  ·refine .inr ⟨x.2,0,e,by simp [mfind,hs],?_,rfl,by rw [hk,hs],fun v'=>by simp [mset,hs]⟩;simp only [Instr.findNow,hk,Instr.sameNow,toList_beq',hs,decide_true,hv,Nat.add_zero]
  ·have hd:decide (s=x.1)=false:=by simp [hs]
   rcases findNow_ents h s (i+1) with ⟨h1,h2,h3⟩ | ⟨v,j,e',h1,h2,h3,h4,h5⟩
   ·refine .inl ⟨by simp [mfind,hd,h1],?_,?_⟩
    ·simp only [Instr.findNow,hk,Instr.sameNow,toList_beq',hd,h2]
    ·funext v
     simp [mset,hd,h3]
   ·refine .inr ⟨v,j+1,e',by simp [mfind,hd,h1],?_,by simpa using h3,h4,fun v'=>by simp [mset,hd,h5]⟩;simp only [Instr.findNow,hk,Instr.sameNow,toList_beq',hd,h2];rw [show i+1+j=i+(j+1) by omega]
 | [],_::_,h,_,_=>by simp at h
 | _::_,[],h,_,_=>by simp at h
theorem qG8:∀(hs:List Nat) (hp:List SB),(killL hs hp).length=hp.length
 | [],hp=>rfl
 | h::r,hp=>by simp only [killL,qG8 r,List.length_set]
theorem killL_at:∀(hs:List Nat) (hp:List SB) (i:Nat) (sb:SB),(killL hs hp)[i]?=some sb→sb=.dead∨(hp[i]?=some sb∧¬i∈hs)
 | [],hp,i,sb,h=>.inr ⟨h,by simp⟩
 | x::r,hp,i,sb,h=>by
  rcases killL_at r _ i sb h with rfl | ⟨h1,h2⟩
  ·exact .inl rfl
  ·by_cases hx:i=x
   ·subst hx;have hl:i<hp.length:=by
     have:=(List.getElem?_eq_some_iff.1 h1).1;simpa using this
    rw [List.getElem?_set_self hl] at h1;exact .inl (Option.some.inj h1).symm
   ·rw [List.getElem?_set_ne (Ne.symm hx)] at h1;exact .inr ⟨h1,by simp only [List.mem_cons,not_or]; exact ⟨hx,h2⟩⟩
theorem HpSat.killL {X:Nat→Prop} {w0 w:World} {ρ:Nat→Value}:∀ {hs:List Nat} {hp:List SB},HpSat X w0 w ρ hp→HpSat X w0 w ρ (killL hs hp)
 | [],_,h=>h
 | x::r,_,h=>HpSat.killL (hs:=r) (h.kill x)
theorem bag_push {X:Nat→Prop} {w0 w w':World} {ρ:Nat→Value} {hp:List SB} (h:HpSat X w0 w ρ hp) (hs:List Nat) {ks:List NK} {e:Nat} {l:List (NT ks)} {u:Value} {rs:List (List Value)}
  (hv:∀k,k<w0.heap.size→¬X k→Same w w' k) (hz:∀k,Froz w k→Same w w' k)
  (hl:∀(i:Nat) (sb:SB) (k:Nat),¬i∈hs→hp[i]?=some sb→sb.ex=true→k∈fp (ρ i)→Same w w' k)
  (hb:BagOK X w0 w' ks e l u rs)
  (hf:∀b∈fp (bagV u rs),w.heap.size≤b∨∃i∈hs,∃sb,hp[i]?=some sb∧sb.ex=true∧b∈fp (ρ i)) :
  ∃ρ',(∀i<hp.length,ρ' i=ρ i)∧ρ' hp.length=bagV u rs∧HpSat X w0 w' ρ' (Go.Eng.killL hs hp++[.bag ks e l]):=by
 have hlen:=qG8 hs hp;have hr:∀i<hp.length,(fun i=>if i=hp.length then bagV u rs else ρ i) i=ρ i:=fun i hi=>by
  have:¬i=hp.length:=by omega
  simp [this]
 refine ⟨fun i=>if i=hp.length then bagV u rs else ρ i,hr,by simp,?_⟩;refine (h.killL (hs:=hs)).push (.bag ks e l) (by rw [hlen]; exact hr) hv hz (fun i sb k hi hx hk=>?_) ?_ trivial ?_ ?_
 ·rcases killL_at hs hp i sb hi with rfl | ⟨h1,h2⟩
  ·cases hx
  ·exact hl i sb k h2 h1 hx hk
 ·rw [hlen];simp only [if_true];exact ⟨u,rs,rfl,hb⟩
 ·rw [hlen];simp only [if_true];trivial
 ·rw [hlen];simp only [if_true];intro _ b hb' i sb' hi hx hk;rcases killL_at hs hp i sb' hi with rfl | ⟨h1,h2⟩
  ·cases hx
  ·rcases hf b hb' with hge | ⟨j,hj,sb,hsb,hx',hkb⟩
   ·have:=(h.fp_lt h1 hx hk).1;omega
   ·exact h.apart i j sb' sb b (fun e=>h2 (by rw [e]; exact hj)) h1 hsb hx hx' hk hkb
theorem nodupN_cons {x:Nat} {r:List Nat} (h:nodupN (x::r)=true):¬x∈r∧nodupN r=true:=by
 simp only [nodupN] at h;cases ha:r.all (fun y=>bif Nat.beq x y then false else true) with
 | false=>rw [ha] at h; simp at h
 | true =>
  rw [ha] at h;refine ⟨fun hx=>?_,h⟩;have:=List.all_eq_true.1 ha x hx;simp at this
theorem nilRow {X:Nat→Prop} {w0 w:World} (q:QK):RowAt X w0 w q (.slice none 0 0) []:=by
 cases q
 ·exact ⟨⟨0,by decide,.inl ⟨rfl,rfl⟩⟩,fun b hb=>by cases hb⟩
 ·exact ⟨⟨0,by decide,.inl ⟨rfl,rfl⟩⟩,fun b hb=>by cases hb⟩
theorem qCy {X:Nat→Prop} {w0 w:World} {ρ:Nat→Value} {hp:List SB} (h:HpSat X w0 w ρ hp):∀ {ks:List NK} {l:List S0} {x:NT ks} {hs:List Nat},qCt hp ks l=some (x,hs)→nodupN hs=true →
  ∃r:List Value,qAv ks x r=l.map (S0.den ρ)∧qA7 X w0 w ks x r∧(∀(j:Nat) (v:Value) (b:Nat),r[j]?=some v→fp1 v=some b→∃i∈hs,b∈fp (ρ i)) ∧
   (∀(j j':Nat) (v v':Value) (b:Nat),r[j]?=some v→r[j']?=some v'→fp1 v=some b→fp1 v'=some b→j=j')∧∀i∈hs,∃m,hp[i]?=some m∧m.ex=true
 | [],[],x,hs,ht,_=>by
  simp only [qCt,snJ,Prod.mk.injEq] at ht;obtain ⟨_,rfl⟩:=ht;exact ⟨[],rfl,rfl,by simp,by simp,by simp⟩
 | [],_::_,x,hs,ht,_=>by simp [qCt] at ht
 | _::_,[],x,hs,ht,_=>by simp [qCt] at ht
 | .int q::r,v::l,x,hs,ht,hn=>by
  simp only [qCt] at ht;split at ht
  ·rename_i q2 n y hs' hy;cases hq:decide (q2=q) with
   | false=>rw [hq] at ht; simp at ht
   | true =>
    rw [hq] at ht;simp only [cnT,snJ,Prod.mk.injEq] at ht;obtain ⟨rfl,rfl⟩:=ht;have:=of_decide_eq_true hq;subst this;obtain ⟨r1,h1,h2,h3⟩:=qCy h hy hn;exact ⟨r1,by simp only [qAv,List.map_cons,h1,S0.den],h2,h3⟩
  ·cases ht
 | .bool::r,v::l,x,hs,ht,hn=>by
  simp only [qCt] at ht;split at ht
  ·rename_i b y hs' hy;simp only [snJ,Prod.mk.injEq] at ht;obtain ⟨rfl,rfl⟩:=ht;obtain ⟨r1,h1,h2,h3⟩:=qCy h hy hn;exact ⟨r1,by simp only [qAv,List.map_cons,h1,S0.den],h2,h3⟩
  ·cases ht
 | .str::r,v::l,x,hs,ht,hn=>by
  simp only [qCt] at ht;split at ht
  ·rename_i b y hs' hy;simp only [snJ,Prod.mk.injEq] at ht;obtain ⟨rfl,rfl⟩:=ht;obtain ⟨r1,h1,h2,h3⟩:=qCy h hy hn;exact ⟨r1,by simp only [qAv,List.map_cons,h1,S0.den],h2,h3⟩
  ·cases ht
 | .map::r,v::l,x,hs,ht,hn=>by
  simp only [qCt] at ht;split at ht
  ·rename_i y hs' hy;simp only [snJ,Prod.mk.injEq] at ht;obtain ⟨rfl,rfl⟩:=ht;obtain ⟨r1,h1,h2,h3,h4,h5⟩:=qCy h hy hn;refine ⟨.map none::r1,by simp only [qAv,List.map_cons,h1,S0.den,List.headD_cons,List.tail_cons],⟨_,_,rfl,rfl,h2⟩,fun j v b hj hf=>?_,fun j j' v v' b hj hj' hf hf'=>?_,h5⟩
   ·cases j with
    | zero=>simp at hj; subst hj; simp [fp1] at hf
    | succ j=>exact h3 j v b (by simpa using hj) hf
   ·cases j with
    | zero=>simp at hj; subst hj; simp [fp1] at hf
    | succ j =>
     cases j' with
     | zero=>simp at hj'; subst hj'; simp [fp1] at hf'
     | succ j'=>rw [h4 j j' v v' b (by simpa using hj) (by simpa using hj') hf hf']
  ·rename_i hh y hs' hy;split at ht
   ·rename_i m hsb;simp only [snJ,Prod.mk.injEq] at ht;obtain ⟨rfl,rfl⟩:=ht;obtain ⟨hn1,hn2⟩:=nodupN_cons hn;obtain ⟨r1,h1,h2,h3,h4,h5⟩:=qCy h hy hn2;have hm:qGs X w0 w (ρ hh) m:=h.sat hh _ hsb;have hfpm:∀b,fp1 (ρ hh)=some b→b∈fp (ρ hh):=fun b hb=>by
     cases hr:ρ hh <;> rw [hr] at hb <;> simp only [fp1,reduceCtorEq] at hb <;> simp_all [fp,fp1]
    have hcross:∀j v b,r1[j]?=some v→fp1 (ρ hh)=some b→fp1 v=some b→False:=fun j v b hj hf hf'=>by
     obtain ⟨i,hi,hbi⟩:=h3 j v b hj hf';obtain ⟨m',hm',hx'⟩:=h5 i hi;exact h.apart hh i _ _ b (fun e=>hn1 (by rw [e]; exact hi)) hsb hm' rfl hx' (hfpm b hf) hbi
    refine ⟨ρ hh::r1,by simp only [qAv,List.map_cons,h1,S0.den,List.headD_cons,List.tail_cons],⟨_,_,rfl,hm,h2⟩,fun j v b hj hf=>?_,fun j j' v v' b hj hj' hf hf'=>?_,fun i hi=>?_⟩
    ·cases j with
     | zero=>simp at hj; subst hj; exact ⟨hh,by simp,hfpm b hf⟩
     | succ j =>
      obtain ⟨i,hi,hb⟩:=h3 j v b (by simpa using hj) hf;exact ⟨i,by simp [hi],hb⟩
    ·cases j with
     | zero =>
      cases j' with
      | zero=>rfl
      | succ j' =>
       simp at hj;subst hj;exact (hcross j' v' b (by simpa using hj') hf hf').elim
     | succ j =>
      cases j' with
      | zero =>
       simp at hj';subst hj';exact (hcross j v b (by simpa using hj) hf' hf).elim
      | succ j'=>rw [h4 j j' v v' b (by simpa using hj) (by simpa using hj') hf hf']
    ·rcases List.mem_cons.1 hi with rfl | hi
     ·exact ⟨_,hsb,rfl⟩
     ·exact h5 i hi
   ·cases ht
  ·cases ht
 | .rw q::r,v::l,x,hs,ht,hn=>by
  simp only [qCt] at ht;split at ht
  ·rename_i y hs' hy;simp only [snJ,Prod.mk.injEq] at ht;obtain ⟨rfl,rfl⟩:=ht;obtain ⟨r1,h1,h2,h3,h4,h5⟩:=qCy h hy hn;refine ⟨.slice none 0 0::r1,by simp only [qAv,List.map_cons,h1,S0.den,List.headD_cons,List.tail_cons],⟨_,_,rfl,nilRow q,h2⟩,fun j v b hj hf=>?_,fun j j' v v' b hj hj' hf hf'=>?_,h5⟩
   ·cases j with
    | zero=>simp at hj; subst hj; simp [fp1] at hf
    | succ j=>exact h3 j v b (by simpa using hj) hf
   ·cases j with
    | zero=>simp at hj; subst hj; simp [fp1] at hf
    | succ j =>
     cases j' with
     | zero=>simp at hj'; subst hj'; simp [fp1] at hf'
     | succ j'=>rw [h4 j j' v v' b (by simpa using hj) (by simpa using hj') hf hf']
  ·rename_i hh y hs' hy;split at ht
   ·rename_i m hm0;obtain ⟨sb0,hsb,hq⟩:=Option.bind_eq_some_iff.1 hm0;obtain ⟨e0,rfl⟩:=QK.take_eq hq;simp only [snJ,Prod.mk.injEq] at ht;obtain ⟨rfl,rfl⟩:=ht;obtain ⟨hn1,hn2⟩:=nodupN_cons hn;obtain ⟨r1,h1,h2,h3,h4,h5⟩:=qCy h hy hn2;have hm:RowAt X w0 w q (ρ hh) m:=⟨⟨e0,(h.sat hh _ hsb).1⟩,(h.sat hh _ hsb).2⟩;have hfpm:∀b,fp1 (ρ hh)=some b→b∈fp (ρ hh):=fun b hb=>by
     cases hr:ρ hh <;> rw [hr] at hb <;> simp only [fp1,reduceCtorEq] at hb <;> simp_all [fp,fp1]
    have hcross:∀j v b,r1[j]?=some v→fp1 (ρ hh)=some b→fp1 v=some b→False:=fun j v b hj hf hf'=>by
     obtain ⟨i,hi,hbi⟩:=h3 j v b hj hf';obtain ⟨m',hm',hx'⟩:=h5 i hi;exact h.apart hh i _ _ b (fun e=>hn1 (by rw [e]; exact hi)) hsb hm' rfl hx' (hfpm b hf) hbi
    refine ⟨ρ hh::r1,by simp only [qAv,List.map_cons,h1,S0.den,List.headD_cons,List.tail_cons],⟨_,_,rfl,hm,h2⟩,fun j v b hj hf=>?_,fun j j' v v' b hj hj' hf hf'=>?_,fun i hi=>?_⟩
    ·cases j with
     | zero=>simp at hj; subst hj; exact ⟨hh,by simp,hfpm b hf⟩
     | succ j =>
      obtain ⟨i,hi,hb⟩:=h3 j v b (by simpa using hj) hf;exact ⟨i,by simp [hi],hb⟩
    ·cases j with
     | zero =>
      cases j' with
      | zero=>rfl
      | succ j' =>
       simp at hj;subst hj;exact (hcross j' v' b (by simpa using hj') hf hf').elim
     | succ j =>
      cases j' with
      | zero =>
       simp at hj';subst hj';exact (hcross j v b (by simpa using hj) hf' hf).elim
      | succ j'=>rw [h4 j j' v v' b (by simpa using hj) (by simpa using hj') hf hf']
    ·rcases List.mem_cons.1 hi with rfl | hi
     ·exact ⟨_,hsb,rfl⟩
     ·exact h5 i hi
   ·cases ht
  ·cases ht
theorem qGs.excl {X X':Nat→Prop} {w0 w0' w:World} {v:Value}:∀ {m:MapC},qGs X w0 w v m→(∀b,fp1 v=some b→Excl X w0 b→Excl X' w0' b)→qGs X' w0' w v m
 | none,h,_=>h
 | some m,⟨b,es,c,hv,hb,he,hx⟩,hk=>⟨b,es,c,hv,hb,he,hk b (by rw [hv]; rfl) hx⟩
theorem RowAt.excl {X X':Nat→Prop} {w0 w0' w:World} {q:QK} {v:Value} {l:List q.T} (h:RowAt X w0 w q v l) (hk:∀b,fp1 v=some b→Excl X w0 b→Excl X' w0' b):RowAt X' w0' w q v l:=⟨h.1,fun b hb=>hk b (fp1_own hb) (h.2 b hb)⟩
theorem qA7.excl {X X':Nat→Prop} {w0 w0' w:World}:∀ {ks:List NK} {x:NT ks} {vs:List Value},qA7 X w0 w ks x vs→(∀b∈vs.filterMap fp1,Excl X w0 b→Excl X' w0' b)→qA7 X' w0' w ks x vs
 | [],_,_,h,_=>h
 | .int _::r,x,_,h,hk=>qA7.excl (ks:=r) (x:=x.2) h hk
 | .bool::r,x,_,h,hk=>qA7.excl (ks:=r) (x:=x.2) h hk
 | .str::r,x,_,h,hk=>qA7.excl (ks:=r) (x:=x.2) h hk
 | .map::r,x,_,⟨v,vs',rfl,h1,h2⟩,hk=>by
  refine ⟨v,vs',rfl,h1.excl fun k hf=>hk k ?_,qA7.excl (ks:=r) (x:=x.2) h2 fun k hf=>hk k ?_⟩
  ·simp only [List.filterMap_cons,hf,List.mem_cons,true_or]
  ·simp only [List.filterMap_cons];split
   ·exact hf
   ·exact List.mem_cons.2 (.inr hf)
 | .rw _::r,x,_,⟨v,vs',rfl,h1,h2⟩,hk=>by
  refine ⟨v,vs',rfl,h1.excl fun k hf=>hk k ?_,qA7.excl (ks:=r) (x:=x.2) h2 fun k hf=>hk k ?_⟩
  ·simp only [List.filterMap_cons,hf,List.mem_cons,true_or]
  ·simp only [List.filterMap_cons];split
   ·exact hf
   ·exact List.mem_cons.2 (.inr hf)
theorem qA3.excl {X X':Nat→Prop} {w0 w0' w:World} {ks:List NK}:∀ {l:List (NT ks)} {rs:List (List Value)},qA3 X w0 w ks l rs→(∀b∈rs.flatMap (fun r=>r.filterMap fp1),Excl X w0 b→Excl X' w0' b)→qA3 X' w0' w ks l rs
 | [],[],h,_=>trivial
 | x::l,r::rs,h,hk=>⟨h.1.excl fun k hf=>hk k (by simp only [List.flatMap_cons,List.mem_append]; exact .inl hf),qA3.excl h.2 fun k hf=>hk k (by simp only [List.flatMap_cons,List.mem_append]; exact .inr hf)⟩
 | [],_::_,h,_=>h.elim
 | _::_,[],h,_=>h.elim
theorem BagOK.exclude {X X':Nat→Prop} {w0 w0' w:World} {ks:List NK} {e:Nat} {l:List (NT ks)} {u:Value} {rs:List (List Value)} (h:BagOK X w0 w ks e l u rs) (hk:∀b∈fp (bagV u rs),Excl X w0 b→Excl X' w0' b):BagOK X' w0' w ks e l u rs:=by
 have hs:∃ad n c,u=.slice ad n c:=by obtain ⟨_,_,h1⟩:=h.slice; exact ⟨_,_,_,h1⟩
 exact ⟨h.row,fun b hb=>hk b ((qD2 hs).2 (.inl hb)) (h.excl b hb),h.refs.excl fun b hb=>hk b ((qD2 hs).2 (.inr (qE9.1 hb))),h.uniq,h.alone,h.pos⟩
theorem fp_of_fp1 {v:Value} {b:Nat} (h:fp1 v=some b):b∈fp v:=by
 cases v with
 | pointer a=>cases a <;> simp_all [fp,fp1]
 | slice a n c=>cases a <;> simp_all [fp,fp1]
 | map r=>cases r <;> simp_all [fp,fp1]
 | _=>all_goals simp [fp1] at h
end Go.Eng
