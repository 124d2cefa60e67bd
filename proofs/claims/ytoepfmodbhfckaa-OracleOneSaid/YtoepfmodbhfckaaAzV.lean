/- What arguments are, by their types. -/
import Derived.Test.YtoepfmodbhfckaaAzU
namespace Go.Proofs.Av
open Go
section
variable {P:Program}
theorem wf_i64 {n:Int}(h:(Lit.int .i64 n).wf=true) : -9223372036854775808≤n∧n≤9223372036854775807:=by
 have e1:IntKind.i64.min = -9223372036854775808:=rfl
 have e2:IntKind.i64.max=9223372036854775807:=rfl
 simp [Lit.wf] at h
 omega
theorem wf_u64 {n:Int}(h:(Lit.int .u64 n).wf=true):0≤n∧n≤18446744073709551615:=by
 have e1:IntKind.u64.min=0:=rfl
 have e2:IntKind.u64.max=18446744073709551615:=rfl
 simp [Lit.wf] at h
 omega
theorem wf_u8 {n:Int}(h:(Lit.int .u8 n).wf=true):0≤n∧n≤255:=by
 have e1:IntKind.u8.min=0:=rfl
 have e2:IntKind.u8.max=255:=rfl
 simp [Lit.wf] at h
 omega
theorem fits_int {t:TypeId}{k:IntKind}{avs:List AV}(hu:P.underlying t=some (.int k)) (h:Fits P t avs):∃n,avs=[.val (.int k n)]∧(Lit.int k n).wf=true:=by
 cases h with
 |int h' n hw=>rw [hu] at h';cases h';exact⟨n,rfl,hw⟩
 |array h'=>rw [hu] at h';cases h'
 |bool h'=>rw [hu] at h';cases h'
 |float h'=>rw [hu] at h';cases h'
 |string h'=>rw [hu] at h';cases h'
 |slice h'=>rw [hu] at h';cases h'
 |struct h'=>rw [hu] at h';cases h'
theorem fits_bool {t:TypeId}{avs:List AV}(hu:P.underlying t=some .bool) (h:Fits P t avs):∃b,avs=[.val (.bool b)]:=by
 cases h with
 |int h'=>rw [hu] at h';cases h'
 |array h'=>rw [hu] at h';cases h'
 |bool h' b=>exact⟨b,rfl⟩
 |float h'=>rw [hu] at h';cases h'
 |string h'=>rw [hu] at h';cases h'
 |slice h'=>rw [hu] at h';cases h'
 |struct h'=>rw [hu] at h';cases h'
theorem fits_str {t:TypeId}{avs:List AV}(hu:P.underlying t=some .string) (h:Fits P t avs):∃s,avs=[.val (.string s)]∧s.size≤maxLen:=by
 cases h with
 |int h'=>rw [hu] at h';cases h'
 |array h'=>rw [hu] at h';cases h'
 |bool h'=>rw [hu] at h';cases h'
 |float h'=>rw [hu] at h';cases h'
 |string h' s hs=>exact⟨s,rfl,hs⟩
 |slice h'=>rw [hu] at h';cases h'
 |struct h'=>rw [hu] at h';cases h'
theorem fits_slice {t e:TypeId}{avs:List AV}(hu:P.underlying t=some (.slice e)) (h:Fits P t avs):∃es:List (List AV),avs=[.list 0 (P.cellsOf e) es]∧es.length≤maxLen∧∀x,x∈es→Fits P e x:=by
 cases h with
 |int h'=>rw [hu] at h';cases h'
 |array h'=>rw [hu] at h';cases h'
 |bool h'=>rw [hu] at h';cases h'
 |float h'=>rw [hu] at h';cases h'
 |string h'=>rw [hu] at h';cases h'
 |slice h' es hl he=>rw [hu] at h';cases h';exact⟨es,rfl,hl,he⟩
 |struct h'=>rw [hu] at h';cases h'
theorem fits_array {t e:TypeId}{k:Nat}{avs:List AV}(hu:P.underlying t=some (.array k e)) (h:Fits P t avs):∃parts:List (List AV),avs=parts.flatten∧parts.length=k∧∀p,p∈parts→Fits P e p:=by
 cases h with
 |int h'=>rw [hu] at h';cases h'
 |array h' parts hl hp=>rw [hu] at h';cases h';exact⟨parts,rfl,hl,hp⟩
 |bool h'=>rw [hu] at h';cases h'
 |float h'=>rw [hu] at h';cases h'
 |string h'=>rw [hu] at h';cases h'
 |slice h'=>rw [hu] at h';cases h'
 |struct h'=>rw [hu] at h';cases h'
theorem fits_struct {t:TypeId}{fs:Array Field}{avs:List AV}(hu:P.underlying t=some (.struct fs)) (h:Fits P t avs):∃parts:List (List AV),avs=parts.flatten∧parts.length=fs.size∧∀(i:Nat) (f:Field) (p:List AV),fs[i]?=some f→parts[i]?=some p→Fits P f.type p:=by
 cases h with
 |int h'=>rw [hu] at h';cases h'
 |array h'=>rw [hu] at h';cases h'
 |bool h'=>rw [hu] at h';cases h'
 |float h'=>rw [hu] at h';cases h'
 |string h'=>rw [hu] at h';cases h'
 |slice h'=>rw [hu] at h';cases h'
 |struct h' parts hl hp=>rw [hu] at h';cases h';exact⟨parts,rfl,hl,hp⟩
theorem parts_i64 {e:TypeId}(he:P.underlying e=some (.int .i64)):∀(parts:List (List AV)),(∀p∈parts,Fits P e p)→∃ns:List Int,parts.flatten=ns.map vi∧ns.length=parts.length∧∀x∈ns,-9223372036854775808≤x∧x≤9223372036854775807
 | [],_=>⟨[],rfl,rfl,fun x h=>by cases h⟩
 |p::ps,h=>by
  obtain⟨n,rfl,hn⟩:=fits_int he (h p (List.mem_cons_self ..))
  obtain⟨ns,h1,h2,h3⟩:=parts_i64 he ps fun q hq=>h q (List.mem_cons_of_mem _ hq)
  refine⟨n::ns,by simp [h1],by simp [h2],fun x hx=> ?_⟩
  rcases List.mem_cons.1 hx with rfl |hx
  ·exact wf_i64 hn
  ·exact h3 x hx
theorem arg_one {t:TypeId}{av:AV}(ha:isAgg P t=false) (h:ArgFits P t av):Fits P t [av]:=by
 cases h with
 |agg h=>rw [ha] at h;cases h
 |one _ hf=>exact hf
theorem arg_agg {t:TypeId}{av:AV}(ha:isAgg P t=true) (h:ArgFits P t av):∃avs,av = .agg avs∧Fits P t avs:=by
 cases h with
 |agg _ hf=>exact⟨_,rfl,hf⟩
 |one h=>rw [ha] at h;cases h
theorem args_cons {t:TypeId}{ts:List TypeId}{avs:List AV}(h:ArgsFit P (t::ts) avs):∃a rs,avs=a::rs∧ArgFits P t a∧ArgsFit P ts rs:=by
 cases h with
 |cons h hs=>exact⟨_,_,rfl,h,hs⟩
theorem args_nil {avs:List AV}(h:ArgsFit P [] avs):avs=[]:=by cases h;rfl
theorem rows_of {α:Type}(f:α→List AV) (p:α→Prop):∀(es:List (List AV)),(∀x,x∈es→∃a,x=f a∧p a)→∃l:List α,es=l.map f∧∀a∈l,p a
 | [],_=>⟨[],rfl,fun a h=>by cases h⟩
 |e::es,h=>by
  obtain⟨a,rfl,ha⟩:=h e (List.mem_cons_self ..)
  obtain⟨l,rfl,hl⟩:=rows_of f p es fun x hx=>h x (List.mem_cons_of_mem _ hx)
  refine⟨a::l,rfl,fun b hb=> ?_⟩
  rcases List.mem_cons.1 hb with rfl |hb
  ·exact ha
  ·exact hl b hb
end
end Go.Proofs.Av
